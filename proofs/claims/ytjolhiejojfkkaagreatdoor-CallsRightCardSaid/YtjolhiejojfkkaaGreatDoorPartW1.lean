/- Steps towards the statements of this seat; the conditions stand in each theorem. -/
import Derived.Test.YtjolhiejojfkkaaGreatDoorRho
import Derived.Test.YtjolhiejojfkkaaGreatDoorT
section
set_option linter.unusedSimpArgs false
set_option linter.unusedVariables false
set_option maxRecDepth 100000
namespace Go.Xt
set_option linter.defProp false
theorem rd(v:Int):0≤nn v∧nn v<4611686018427387904:=by
 unfold nn NN
 match v.toNat with
 | 0=>simp | 1=>simp | 2=>simp | 3=>simp | 4=>simp | 5=>simp | 6=>simp | 7=>simp
 | n+8=>simp
theorem Tm(v:Int):0≤tt v∧tt v<4611686018427387904:=by
 unfold tt TT
 match v.toNat with
 | 0=>simp | 1=>simp | 2=>simp | 3=>simp
 | n+4=>simp
theorem dr{v:Int}:isN v=true↔0≤v∧v<8:=by simp[isN]
theorem jy{v:Int}:isT v=true↔0≤v∧v<4:=by simp[isT]
theorem UY{v:Int}{k:PV→Prop}(h0:0≤v)(h1:v<8):OP .pickA [I v,I 2342812313538366385,I 1863050908023769503,I 81111313352671826,I 2434324899588211290,I 2454816673080883147,I 1342378062264523301,I 820659310660760249,I 2006264061484817761] k=k (I (nn v)):=by
 obtain ⟨n,rfl⟩:=Int.eq_ofNat_of_zero_le h0
 have:n<8:=by omega
 match n with
 | 0=>exact aL rfl | 1=>exact aL rfl | 2=>exact aL rfl | 3=>exact aL rfl | 4=>exact aL rfl | 5=>exact aL rfl | 6=>exact aL rfl | 7=>exact aL rfl
 | n+8=>omega
theorem UZ{v:Int}{k:PV→Prop}(h0:0≤v)(h1:v<4):OP .pickA [I v,I 1462484242049070477,I 1775212608919665246,I 3535639072113518480,I 3725500155902745375] k=k (I (tt v)):=by
 obtain ⟨n,rfl⟩:=Int.eq_ofNat_of_zero_le h0
 have:n<4:=by omega
 match n with
 | 0=>exact aL rfl | 1=>exact aL rfl | 2=>exact aL rfl | 3=>exact aL rfl
 | n+4=>omega
theorem Qa(n:Int):WW ρ 1 zo nY n:=by
 simp only[nY,RR]
 unfold zo
 simp (disch:=first|omega|assumption|(constructor<;>first|assumption|omega)|simp only[LN];omega) only[↓SB,S1]
 refine ⟨fun h=>?_,fun h=>?_⟩ <;>simp[isN,h]
 try omega
theorem M7(n:Int):WW ρ 1 uf kJ n:=by
 simp only[kJ,RR]
 unfold uf
 simp (disch:=first|omega|assumption|(constructor<;>first|assumption|omega)|simp only[LN];omega) only[↓SB,S1,↓et]
 refine ⟨fun h=>?_,fun h=>?_⟩
 ·simp[h]
 ·rw[dr] at h
  rw[UY h.1 h.2];simp[dr,h]
theorem J0(t:Int):WW ρ 1 rS jl t:=by
 simp only[jl,RR]
 unfold rS
 simp (disch:=first|omega|assumption|(constructor<;>first|assumption|omega)|simp only[LN];omega) only[↓SB,S1]
 refine ⟨fun h=>⟨fun h2=>?_,fun h2=>?_⟩,fun h=>?_⟩
 ·simp[isT,h];try omega
 ·rw[UZ h (by omega)];simp[jy,h];try omega
 ·simp[isT,h];try omega
theorem Qb(k:Int)(n:Int)(hp:0≤k∧k<4611686018427387904∧0≤n∧n<4611686018427387904):WW ρ 2 zp nZ (k,n):=by
 simp only[nZ,RR]
 unfold zp far
 obtain ⟨h1,h2,h3,h4⟩:=hp
 simp (disch:=first|omega|assumption|(constructor<;>first|assumption|omega)|simp only[LN];omega) only[↓SB,S1]
 refine ⟨fun h=>?_,fun h=>?_⟩
 ·simp[h]
 ·simp[h];try omega
theorem J1(n:Int)(hp:isN n=true):WW ρ 1 rT lq n:=by
 simp only[lq,RR]
 unfold rT
 rw[dr] at hp
 simp (disch:=first|omega|assumption|(constructor<;>first|assumption|omega)|simp only[LN];omega) only[↓SB,S1]
 rw[QT hp.1 (by simp only[List.length_cons,List.length_nil];omega)];rfl
theorem F4(t:Int)(hp:isT t=true):WW ρ 1 pQ jR t:=by
 simp only[jR,RR]
 unfold pQ
 rw[jy] at hp
 simp (disch:=first|omega|assumption|(constructor<;>first|assumption|omega)|simp only[LN];omega) only[↓SB,S1]
 rw[QT hp.1 (by simp only[List.length_cons,List.length_nil];omega)];rfl
theorem CC(k:Int)(n:Int)(hp:0≤k∧k<4611686018427387904∧0≤n∧n<4611686018427387904):WW ρ 2 oA iI (k,n):=by
 simp only[iI,RR]
 unfold oA far
 obtain ⟨h1,h2,h3,h4⟩:=hp
 simp (disch:=first|omega|assumption|(constructor<;>first|assumption|omega)|simp only[LN];omega) only[↓SB,S1]
 refine ⟨fun h=>?_,fun h=>?_⟩
 ·simp;omega
 ·simp;omega
theorem AR(t:Int):WW ρ 1 nj ej t:=by
 simp only[ej,RR]
 unfold nj
 simp (disch:=first|omega|assumption|(constructor<;>first|assumption|omega)|simp only[LN];omega) only[↓SB,S1,↓mj]
 first
 | (refine ⟨fun h=>?_,fun h=>?_⟩ <;>simp[isT,h]<;>omega)
 | (simp only[isT,List.cons.injEq,PV.bool.injEq,and_true];rw[Bool.eq_iff_iff];simp;omega)
theorem CD(n:Int):WW ρ 1 oB fH n:=by
 simp only[fH,RR]
 unfold oB
 simp (disch:=first|omega|assumption|(constructor<;>first|assumption|omega)|simp only[LN];omega) only[↓SB,S1,↓mj]
 first
 | (refine ⟨fun h=>?_,fun h=>?_⟩ <;>simp[isN,h]<;>omega)
 | (simp only[isN,List.cons.injEq,PV.bool.injEq,and_true];rw[Bool.eq_iff_iff];simp;omega)
def Ob:=And.intro @rJ (And.intro @pp (@vp))
theorem Oc(t:Int)(n:Int):WW ρ 2 wJ ma (t,n):=by
 simp only[ma,RR]
 unfold wJ gap
 have:=Tm t;have:=rd n
 simp (disch:=first|omega|assumption|(constructor<;>first|assumption|omega)|simp only[LN];omega) only[↓SB,S1,↓Ob]
 cases h1:isT t<;>cases h2:isN n<;>simp
theorem F5(t:Int)(a:Int)(b:Int):WW ρ 3 pR gW (t,a,b):=by
 simp only[gW,RR]
 unfold pR fD
 simp (disch:=first|omega|assumption|(constructor<;>first|assumption|omega)|simp only[LN];omega) only[↓SB,S1,↓ox]
 cases h1:isT t<;>cases h2:isN a<;>cases h3:isN b<;>simp
theorem M8(t:Int)(n:Int)(hp:isT t=true∧isN n=true):WW ρ 2 ug mY (t,n):=by
 simp only[mY,RR]
 unfold ug gap
 have:=Tm t;have:=rd n
 obtain ⟨h1,h2⟩:=hp
 rw[EG h1,rK h2,ow (by omega)]
def uK:=And.intro @kS (And.intro @dV (@ng))
theorem CF(t:Int)(a:Int)(b:Int):WW ρ 3 oC fI (t,a,b):=by
 simp only[fI,RR]
 unfold oC fD
 simp (disch:=first|omega|assumption|(constructor<;>first|assumption|omega)|simp only[LN];omega) only[↓SB,S1,↓uK]
 cases h1:isT t<;>cases h2:isN a<;>cases h3:isN b<;>simp
 rw[kS ⟨h1,h2⟩,kS ⟨h1,h3⟩]
 simp (disch:=first|omega|assumption|(constructor<;>first|assumption|omega)|simp only[LN];omega) only[↓SB,S1,↓uK]
theorem jc{t a b:Int}(h:fD t a b=true):(0≤t∧t<4)∧(0≤a∧a<8)∧(0≤b∧b<8)∧gap t a<gap t b:=by
 simp only[fD,Bool.and_eq_true,decide_eq_true_eq,jy,dr] at h
 exact ⟨h.1.1.1,h.1.1.2,h.1.2,h.2⟩
end Go.Xt
end
section
set_option linter.unusedSimpArgs false
set_option linter.unusedVariables false
set_option maxRecDepth 100000
namespace Go.Xt
set_option linter.defProp false
theorem Od(l:List Int)(hg:ag (kq l).2.1):WW ρ 1 wK kq l:=by
 simp only[kq,RR] at hg ⊢
 unfold wK
 simp only[ag,aR] at hg
 simp (disch:=first|omega|assumption|(constructor<;>first|assumption|omega)|simp only[LN];omega) only[↓SB,S1,↓et]
 refine aw.rule (α:=Nat) (fun i=>[I i]) (fun i=>i≤l.length∧(l.drop i).all isN=l.all isN) (fun i=>l.length-i) 0 rfl ⟨by omega,rfl⟩ (fun _=>rfl) ?_
 rintro i ⟨h1,h2⟩
 simp only[app]
 simp (disch:=first|omega|assumption|(constructor<;>first|assumption|omega)|simp only[LN];omega) only[↓SB,S1,↓et]
 refine ⟨fun h=>?_,fun h=>?_⟩
 ·obtain ⟨x,hx⟩:=am h
  rw[az hx,List.all_cons] at h2
  simp (disch:=first|omega|assumption|(constructor<;>first|assumption|omega)|simp only[LN];omega) only[↓SB,S1,↓et,ab hx]
  refine ⟨fun h3=>?_,fun h3=>⟨i+1,rfl,⟨by omega,by simpa[h3] using h2⟩,by omega⟩⟩
  rw[h3] at h2;simp[←h2]
 ·rw[aq h] at h2
  simp[←h2]
theorem J2(t:Int)(self:Int)(l:List Int)(hg:ag (fY (t,self,l)).2.1):WW ρ 3 rU fY (t,self,l):=by
 simp only[fY,RR] at hg ⊢
 unfold rU
 simp only[ag,aR] at hg
 simp (disch:=first|omega|assumption|(constructor<;>first|assumption|omega)|simp only[LN];omega) only[↓SB,S1,↓dC]
 refine aw.rule (α:=Nat×Int) (fun a=>[I a.2,I a.1]) (fun a=>a.1≤l.length∧pi t a.2 (l.drop a.1)=pi t self l) (fun a=>l.length-a.1) (0,self) rfl ⟨by simp,rfl⟩ (fun _=>rfl) ?_
 rintro ⟨i,s⟩ ⟨h1,h2⟩
 simp only[app] at *
 simp (disch:=first|omega|assumption|(constructor<;>first|assumption|omega)|simp only[LN];omega) only[↓SB,S1,↓dC]
 refine ⟨fun h=>?_,fun h=>?_⟩
 ·obtain ⟨x,hx⟩:=am h
  rw[az hx,pi] at h2
  simp (disch:=first|omega|assumption|(constructor<;>first|assumption|omega)|simp only[LN];omega) only[↓SB,S1,↓dC,ab hx]
  refine ⟨fun h3=>?_,fun h3=>⟨(i+1,x),rfl,⟨by simp;omega,by simpa[h3] using h2⟩,by simp;omega⟩⟩
  rw[h3] at h2;simp[←h2]
 ·rw[aq h] at h2
  simp[←h2,pi]
def yk:=And.intro @ox (And.intro @wH (@It))
theorem J3(t:Int)(self:Int)(l:List Int)(depth:Int)(hg:ag (fZ (t,self,l,depth)).2.1):WW ρ 4 rV fZ (t,self,l,depth):=by
 simp only[fZ,RR] at hg ⊢
 unfold rV chk
 rw[ox]
 refine SUB.v1 (bb (!(isT t&&isN self&&decide (1≤depth)&&decide (depth≤8)&&l.all isN))) ?_ ?_
 ·simp (disch:=first|omega|assumption|(constructor<;>first|assumption|omega)|simp only[LN];omega) only[↓SB,S1,↓yk]
  by_cases h3:1≤depth<;>by_cases h4:depth≤8<;>cases h1:isT t<;>cases h2:isN self<;>simp[h3,h4]<;>omega
 simp (disch:=first|omega|assumption|(constructor<;>first|assumption|omega)|simp only[LN];omega) only[↓SB,S1,↓yk]
 by_cases h:(isT t&&isN self&&decide (1≤depth)&&decide (depth≤8)&&l.all isN)=true
 ·rw[if_pos h];simp only[h]
  cases h5:pi t self l<;>simp<;>omega
 ·rw[if_neg h];simp[h]
theorem zt(l:List Int)(hp:l.length≤1000000):WW ρ 1 mq dG l:=by
 simp only[dG,RR]
 unfold mq
 simp (disch:=first|omega|assumption|(constructor<;>first|assumption|omega)|simp only[LN];omega) only[↓SB,S1]
theorem J4(a:List Int)(b:List Int)(hg:ag (ga (a,b)).2.1):WW ρ 2 rW ga (a,b):=by
 simp only[ga,RR] at hg ⊢
 unfold rW
 simp only[ag,aR] at hg
 simp (disch:=first|omega|assumption|(constructor<;>first|assumption|omega)|simp only[LN];omega) only[↓SB,S1]
 refine ⟨fun h=>?_,fun h=>?_⟩
 ·have:a≠b:=by rintro rfl;simp at h
  simp[this]
 have hl:a.length=b.length:=by omega
 refine aw.rule (α:=Nat) (fun i=>[I i]) (fun i=>i≤a.length∧((a=b)=(a.drop i=b.drop i))) (fun i=>a.length-i) 0 rfl ⟨by omega,by simp⟩ (fun _=>rfl) ?_
 rintro i ⟨h1,h2⟩
 simp only[app]
 simp (disch:=first|omega|assumption|(constructor<;>first|assumption|omega)|simp only[LN];omega) only[↓SB,S1]
 refine ⟨fun h=>?_,fun h=>?_⟩
 ·obtain ⟨x,hx⟩:=am h
  obtain ⟨y,hy⟩:=am (xs:=b) (i:=i) (by omega)
  simp (disch:=first|omega|assumption|(constructor<;>first|assumption|omega)|simp only[LN];omega) only[↓SB,S1,ab hx,ab hy]
  rw[az hx,az hy,List.cons.injEq] at h2
  refine ⟨fun h3=>?_,fun h3=>⟨i+1,rfl,⟨by omega,?_⟩,by omega⟩⟩
  ·simp[h2,h3]
  ·simpa[h3] using h2
 ·rw[aq h,aq (by omega)] at h2
  simp[h2]
def nM:=And.intro @lu (@dV)
theorem J5(t:Int)(self:Int)(l:List Int)(depth:Int)(hp:isT t=true∧isN self=true)(hg:ag (gc (t,self,l,depth)).2.1):WW ρ 4 rX gc (t,self,l,depth):=by
 simp only[gc,RR] at hg ⊢
 unfold rX PS
 simp only[ag,aR] at hg
 refine aw.rule (α:=Nat) (fun i=>[I i]) (fun i=>i≤l.length∧(l.drop i).all isN=l.all isN) (fun i=>l.length-i) 0 rfl ⟨by omega,by simp⟩ (fun _=>rfl) ?_
 rintro i ⟨h1,h2⟩
 simp only[app]
 simp (disch:=first|omega|assumption|(constructor<;>first|assumption|omega)|simp only[LN];omega) only[↓SB,S1,↓nM]
 refine ⟨fun h=>?_,fun h=>?_⟩
 ·obtain ⟨x,hx⟩:=am h
  rw[az hx,List.all_cons] at h2
  simp (disch:=first|omega|assumption|(constructor<;>first|assumption|omega)|simp only[LN];omega) only[↓SB,S1,↓nM,ab hx]
  refine ⟨fun h3=>?_,fun h3=>⟨i+1,rfl,⟨by omega,by simpa[h3] using h2⟩,by omega⟩⟩
  rw[h3] at h2;simp[←h2]
 ·rw[aq h] at h2
  simp only[←h2,List.all_nil,if_true]
  refine ⟨fun h3=>by simp[h3],fun h3=>?_⟩
  rw[if_neg (by omega)]
  refine aw.rule (α:=Nat×Int) (fun a=>[I a.2,I a.1]) (fun a=>a.1≤l.length∧pi t a.2 (l.drop a.1)=pi t self l) (fun a=>l.length-a.1) (0,self) rfl ⟨by simp,rfl⟩ (fun _=>rfl) ?_
  rintro ⟨i,s⟩ ⟨h1,h2⟩
  simp only[app] at *
  simp (disch:=first|omega|assumption|(constructor<;>first|assumption|omega)|simp only[LN];omega) only[↓SB,S1,↓nM]
  refine ⟨fun h=>?_,fun h=>?_⟩
  ·obtain ⟨x,hx⟩:=am h
   rw[az hx,pi] at h2
   simp (disch:=first|omega|assumption|(constructor<;>first|assumption|omega)|simp only[LN];omega) only[↓SB,S1,↓nM,ab hx]
   refine ⟨fun h3=>?_,fun h3=>⟨(i+1,x),rfl,⟨by simp;omega,by simpa[h3] using h2⟩,by simp;omega⟩⟩
   rw[h3] at h2;simp[←h2]
  ·rw[aq h] at h2
   simp[←h2,pi]
end Go.Xt
end
section
set_option linter.unusedSimpArgs false
set_option linter.unusedVariables false
set_option maxRecDepth 100000
namespace Go.Xt
set_option linter.defProp false
theorem Oe(n:Int)(lo:Int)(hi:Int):WW ρ 3 wM mc (n,lo,hi):=by
 simp only[mc,RR]
 unfold wM
 simp (disch:=first|omega|assumption|(constructor<;>first|assumption|omega)|simp only[LN];omega) only[↓S0,S3,S2,S1]
 simp
theorem CG(c:Config):WW ρ 7 oE fK c:=by
 simp only[fK,RR]
 unfold oE
 simp (disch:=first|omega|assumption|(constructor<;>first|assumption|omega)|simp only[LN];omega) only[↓S0,S3,S2,S1,↓mj]
 simp[bx,rng,Bool.and_assoc]
def AU:=And.intro @vQ (@Cl)
theorem AV(c:Config):WW ρ 7 np ek c:=by
 simp only[ek,RR]
 unfold np
 simp (disch:=first|omega|assumption|(constructor<;>first|assumption|omega)|simp only[LN];omega) only[↓SB,S1,↓AU]
 rw[vQ]
 ·simp[pk,pj]
 ·simp
theorem SR: ∀ {l:List Int},(∀e∈l,e=13)→jk l=if l=[] then 0 else 13
 | [],_=>by simp[jk]
 | e::r,h=>by
  have h9: ¬9∈e::r:=fun h'=>absurd (h 9 h') (by decide)
  simp only[jk,if_neg h9]
  simp[h e (by simp)]
theorem Qc{n lo hi why:Int}:(pj n lo hi why=[])=(rng n lo hi=true):=by
 unfold pj rng
 by_cases h:n<lo∨hi<n
 ·rw[if_pos h];simp;omega
 ·rw[if_neg h];simp;omega
theorem Qd{n lo hi why e:Int}(h:e∈pj n lo hi why):e=why:=by
 unfold pj at h;split at h<;>simp at h;exact h
theorem mv{n lo hi why:Int}:(pj n lo hi why).length≤1:=by unfold pj;split<;>simp
theorem Qe(c:Config):jk (pk c)=if bx c=true then 0 else 13:=by
 rw[SR]
 ·have:(pk c=[])=(bx c=true):=by
   simp only[pk,List.append_eq_nil_iff,Qc,bx,Bool.and_eq_true]
  simp only[this]
 ·intro e h
  simp only[pk,List.mem_append] at h
  rcases h with (((((h | h) | h) | h) | h) | h) | h<;>exact Qd h
def AW:=And.intro @Cn (@AM)
theorem AX(c:Config):WW ρ 7 nq eo c:=by
 simp only[eo,RR]
 unfold nq
 have h:(pk c).length≤1000:=by
  have h1:=@mv c.nodes 1 8 13;have h2:=@mv c.topics 1 4 13;have h3:=@mv c.kids 1 4 13;have h4:=@mv c.depth 1 8 13
  have h5:=@mv c.keep 1 16 13;have h6:=@mv c.window 1 16 13;have h7:=@mv c.queue 2 32 13
  simp only[pk,List.length_append];omega
 simp (disch:=first|omega|assumption|(constructor<;>first|assumption|omega)|simp only[LN];omega) only[↓SB,S1,↓AW]
 exact congrArg (fun x=>[I x]) (Qe c)
end Go.Xt
end
section
set_option linter.unusedSimpArgs false
set_option linter.unusedVariables false
set_option maxRecDepth 100000
namespace Go.Xt
set_option linter.defProp false
theorem Ry(n:Int)(lo:Int)(hi:Int):WW ρ 3 CB ra (n,lo,hi):=by
 simp only[ra,RR]
 unfold CB rng
 simp (disch:=first|omega|assumption|(constructor<;>first|assumption|omega)|simp only[LN];omega) only[↓S0,S3,S2,S1]
 simp
theorem Qf(n:Int)(lo:Int)(hi:Int):WW ρ 3 zq o0 (n,lo,hi):=by
 simp only[o0,RR]
 unfold zq rng
 simp (disch:=first|omega|assumption|(constructor<;>first|assumption|omega)|simp only[LN];omega) only[↓S0,S3,S2,S1]
 simp
theorem Of(n:Int)(lo:Int)(hi:Int):WW ρ 3 wN md (n,lo,hi):=by
 simp only[md,RR]
 unfold wN rng
 simp (disch:=first|omega|assumption|(constructor<;>first|assumption|omega)|simp only[LN];omega) only[↓S0,S3,S2,S1]
 simp
theorem Og(n:Int)(lo:Int)(hi:Int):WW ρ 3 wO mf (n,lo,hi):=by
 simp only[mf,RR]
 unfold wO rng
 simp (disch:=first|omega|assumption|(constructor<;>first|assumption|omega)|simp only[LN];omega) only[↓S0,S3,S2,S1]
 simp
theorem F6(n:Int):WW ρ 1 pZ gY n:=by
 simp only[gY,RR]
 unfold pZ cnt
 simp (disch:=first|omega|assumption|(constructor<;>first|assumption|omega)|simp only[LN];omega) only[↓S0,S3,S2,S1,↓rb]
theorem M9(n:Int):WW ρ 1 ui kL n:=by
 simp only[kL,RR]
 unfold ui val
 simp (disch:=first|omega|assumption|(constructor<;>first|assumption|omega)|simp only[LN];omega) only[↓S0,S3,S2,S1,↓rb]
theorem F7(n:Int):WW ρ 1 qa gZ n:=by
 simp only[gZ,RR]
 unfold qa val
 simp (disch:=first|omega|assumption|(constructor<;>first|assumption|omega)|simp only[LN];omega) only[↓S0,S3,S2,S1,↓mj]
 try simp[rng]
theorem F8(n:Int):WW ρ 1 qb hU n:=by
 simp only[hU,RR]
 unfold qb cnt
 simp (disch:=first|omega|assumption|(constructor<;>first|assumption|omega)|simp only[LN];omega) only[↓S0,S3,S2,S1,↓cB]
theorem F9(e:Int):WW ρ 1 pY gX e:=by
 simp only[gX,RR]
 unfold pY
 repeat' (first | apply And.intro | intro _ | simp (disch:=first|omega|assumption|(constructor<;>first|assumption|omega)|simp only[LN];omega) only[↓SB,S1,↓et])
 all_goals (simp_all[ep,rng];try omega)
theorem Ma(e:Int):WW ρ 1 uh kK e:=by
 simp only[kK,RR]
 unfold uh
 cases he:ep e
 ·simp (disch:=first|omega|assumption|(constructor<;>first|assumption|omega)|simp only[LN];omega) only[↓SB,S1,↓jT]
  simp[he]
 ·have h0:0≤e:=by simp only[ep,rng,Bool.and_eq_true,decide_eq_true_eq] at he;omega
  simp (disch:=first|omega|assumption|(constructor<;>first|assumption|omega)|simp only[LN];omega) only[↓SB,S1,↓jT]
  simp[he]
theorem Fa(e:Int):WW ρ 1 qc hZ e:=by
 simp only[hZ,RR]
 unfold qc
 cases he:rng e 1 1073741824
 ·simp (disch:=first|omega|assumption|(constructor<;>first|assumption|omega)|simp only[LN];omega) only[↓SB,S1,↓cB]
  simp[he,ep]
 ·have h0:0≤e:=by simp only[rng,Bool.and_eq_true,decide_eq_true_eq] at he;omega
  simp (disch:=first|omega|assumption|(constructor<;>first|assumption|omega)|simp only[LN];omega) only[↓SB,S1,↓cB]
  simp[he,ep,isN];omega
theorem J6(p:Peer):WW ρ 2 s5 jm p:=by
 simp only[jm,RR]
 unfold s5
 simp (disch:=first|omega|assumption|(constructor<;>first|assumption|omega)|simp only[LN];omega) only[↓S0,S3,S2,S1]
 simp[og,rng,Bool.and_assoc]
def J7:=And.intro @dC (@bP)
theorem J8(t:Int)(self:Int)(k:Kid):WW ρ 5 s7 jn (t,self,k):=by
 simp only[jn,RR]
 unfold s7
 simp (disch:=first|omega|assumption|(constructor<;>first|assumption|omega)|simp only[LN];omega) only[↓S0,S3,S2,S1,↓J7]
 simp[rng,Bool.and_assoc]
theorem J9(seq:Int)(want:Int)(window:Int)(hp:cnt want=true∧rng window 1 16=true):WW ρ 3 sd jp (seq,want,window):=by
 simp only[jp,RR]
 unfold sd
 obtain ⟨h1,h2⟩:=hp
 simp only[cnt,rng,Bool.and_eq_true,decide_eq_true_eq] at h1 h2
 simp (disch:=first|omega|assumption|(constructor<;>first|assumption|omega)|simp only[LN];omega) only[↓S0,S3,S2,S1]
 simp[Bool.and_assoc]
theorem Ja(t:Int)(self:Int)(n:Int)(hg:ag (gr (t,self,n)).2.1):WW ρ 3 si gr (t,self,n):=by
 simp only[gr,RR] at hg ⊢
 unfold si
 simp only[ag,bV] at hg
 repeat' (first | apply And.intro | intro _ | simp (disch:=first|omega|assumption|(constructor<;>first|assumption|omega)|simp only[LN];omega) only[↓SB,S1,↓dC])
 all_goals (simp_all[iu];try omega)
def yl:=And.intro @lu (@cB)
theorem Jb(t:Int)(self:Int)(n:Int)(hg:ag (gt (t,self,n)).2.1):WW ρ 3 sj gt (t,self,n):=by
 simp only[gt,RR] at hg ⊢
 unfold sj
 simp only[ag,bV] at hg
 cases h2:rng n 1 8
 ·simp (disch:=first|omega|assumption|(constructor<;>first|assumption|omega)|simp only[LN];omega) only[↓SB,S1,↓yl,h2]
  refine ⟨fun h1=>by simp[iu,h1],fun h1=>?_⟩
  have h9: ¬(0<n∧fD t (n-1) self=true):=by
   rintro ⟨h3,h4⟩
   have:=(jc h4).2.1
   simp[rng] at h2;omega
  simp only[iu,h1]
  cases h3:decide (0<n)<;>cases h4:fD t (n-1) self<;>simp_all<;>omega
 ·have h3:1≤n∧n≤8:=by simpa[rng] using h2
  simp (disch:=first|omega|assumption|(constructor<;>first|assumption|omega)|simp only[LN];omega) only[↓SB,S1,↓yl,h2]
  refine ⟨fun h1=>by omega,fun h1=>?_⟩
  simp[iu,h1];omega
theorem CH(self:Int)(x:Topic):WW ρ 17 oH fL (self,x):=by
 simp only[fL,RR]
 unfold oH
 simp (disch:=first|omega|assumption|(constructor<;>first|assumption|omega)|simp only[LN];omega) only[↓S0,S3,S2,S1,↓Lz]
 cases h0:decide (x.root=0)<;>cases h1:ep x.root<;>simp_all[lY,Bool.and_assoc]
theorem CI(x:Topic)(hp:0≤x.parent∧x.parent≤8)(hg:ag (dO x).2.1):WW ρ 16 oI dO x:=by
 simp only[dO,RR] at hg ⊢
 unfold oI mW
 simp only[ag,bV,aR] at hg
 cases hx:x.path with
 | nil=>simp (disch:=first|omega|assumption|(constructor<;>first|assumption|omega)|simp only[LN];omega) only[↓SB,S1];simp
 | cons p r =>
  have h1: ¬((r.length:Int)+1=0):=by omega
  simp (disch:=first|omega|assumption|(constructor<;>first|assumption|omega)|simp only[LN];omega) only[↓SB,S1,Pf,List.length_cons,Int.natCast_add,Int.cast_ofNat_Int,h1]
theorem Mb(s:Stream):WW ρ 5 uj kM s:=by
 simp only[kM,RR]
 unfold uj nI
 simp (disch:=first|omega|assumption|(constructor<;>first|assumption|omega)|simp only[LN];omega) only[↓S0,S3,S2,S1]
 simp[Bool.and_assoc]
end Go.Xt
end
section
set_option linter.unusedSimpArgs false
set_option linter.unusedVariables false
set_option maxRecDepth 100000
namespace Go.Xt
set_option linter.defProp false
theorem Jc(l:List Peer)(hg:ag (gh l).2.1):WW ρ 1 s6 gh l:=by
 simp only[gh,RR] at hg ⊢
 unfold s6 bB
 simp only[ag,aR] at hg
 simp (disch:=first|omega|assumption|(constructor<;>first|assumption|omega)|simp only[LN];omega) only[↓SB,S1,↓rL]
 refine ⟨fun h=>?_,fun h=>⟨fun h2=>?_,fun h2=>?_⟩⟩
 ·simp[show ¬1≤l.length by omega]
 ·simp[show ¬l.length≤8 by omega]
 have e1:decide (1≤l.length)=true:=by simp;omega
 have e2:decide (l.length≤8)=true:=by simp;omega
 have e3:decide ((8:Int)<l.length)=false:=by simp;omega
 simp only[e1,e2,e3,Bool.true_and]
 refine aw.rule (α:=Nat) (fun i=>[I i]) (fun i=>i≤l.length∧(l.drop i).all (og)=l.all (og)) (fun i=>l.length-i) 0 rfl ⟨by omega,by simp⟩ (fun _=>rfl) ?_
 rintro i ⟨hl_i,hs_i⟩
 simp only[app]
 simp (disch:=first|omega|assumption|(constructor<;>first|assumption|omega)|simp only[LN];omega) only[↓SB,S1,↓rL]
 refine ⟨fun hc_i=>?_,fun hc_i=>?_⟩
 ·obtain ⟨x,hx⟩:=am hc_i
  rw[az hx,List.all_cons] at hs_i
  simp (disch:=first|omega|assumption|(constructor<;>first|assumption|omega)|simp only[LN];omega) only[↓SB,S1,↓rL,ab hx]
  refine ⟨fun h3=>?_,fun h3=>⟨i+1,rfl,⟨by omega,by simpa[h3] using hs_i⟩,by omega⟩⟩
  rw[h3,Bool.false_and] at hs_i;simp[←hs_i,jM]
 ·rw[aq hc_i] at hs_i
  simp only[←hs_i];simp[h2,bn]
theorem Fb(l:List Peer)(hg:ag (eR l).2.1):WW ρ 1 qd eR l:=by
 simp only[eR,RR] at hg ⊢
 unfold qd bB
 simp only[ag,aR] at hg
 simp (disch:=first|omega|assumption|(constructor<;>first|assumption|omega)|simp only[LN];omega) only[↓SB,S1,↓cB]
 refine ⟨fun h=>?_,fun h=>?_⟩
 ·simp only[rng,Bool.and_eq_false_iff,decide_eq_false_iff_not] at h
  by_cases h1:1≤l.length<;>by_cases h2:l.length≤8<;>simp[h1,h2]<;>omega
 simp only[rng,Bool.and_eq_true,decide_eq_true_eq] at h
 have e1:decide (1≤l.length)=true:=by simp;omega
 have e2:decide (l.length≤8)=true:=by simp;omega
 simp only[e1,e2,Bool.true_and]
 refine aw.rule (α:=Nat) (fun i=>[I i]) (fun i=>i≤l.length∧(l.drop i).all (og)=l.all (og)) (fun i=>l.length-i) 0 rfl ⟨by omega,by simp⟩ (fun _=>rfl) ?_
 rintro i ⟨hl_i,hs_i⟩
 simp only[app]
 simp (disch:=first|omega|assumption|(constructor<;>first|assumption|omega)|simp only[LN];omega) only[↓SB,S1,↓cB]
 refine ⟨fun hc_i=>?_,fun hc_i=>?_⟩
 ·obtain ⟨x,hx⟩:=am hc_i
  rw[az hx,List.all_cons] at hs_i
  simp (disch:=first|omega|assumption|(constructor<;>first|assumption|omega)|simp only[LN];omega) only[↓SB,S1,↓cB,ab hx]
  refine ⟨fun h3=>?_,fun h3=>⟨fun h4=>?_,fun h4=>⟨i+1,rfl,⟨by omega,by simpa[og,h3,h4] using hs_i⟩,by omega⟩⟩⟩
  ·rw[←hs_i];simp[og,h3]
  ·rw[←hs_i];simp[og,h4]
 ·rw[aq hc_i] at hs_i
  simp only[←hs_i];simp
theorem dlt(a b:Int):decide (a<b)= !decide (b≤a):=by rw[Bool.eq_iff_iff];simp
theorem sP{t a b c:Int}(h1:fD t a b=true)(h2:fD t b c=true):fD t a c=true:=by
 obtain ⟨a1,a2,a3,a4⟩:=jc h1
 obtain ⟨b1,b2,b3,b4⟩:=jc h2
 simp only[fD,Bool.and_eq_true,decide_eq_true_eq,jy,dr]
 exact ⟨⟨⟨a1,a2⟩,b3⟩,by omega⟩
theorem Ao{t a:Int}{k:Kid}{r:List Kid}:lX t a (k::r)=(fD t a k.node&&cnt k.inc&&rng k.age 0 6&&lX t k.node r):=rfl
def jz:=And.intro @dC (And.intro @ox (@Iz))
theorem Jd(t:Int)(self:Int)(limit:Int)(l:List Kid)(hg:ag (gi (t,self,limit,l)).2.1):WW ρ 4 s8 gi (t,self,limit,l):=by
 simp only[gi,RR] at hg ⊢
 unfold s8 ko
 simp only[ag,bV,aR] at hg
 rw[ox]
 refine SUB.v1 (bb (!(isT t&&isN self&&rng limit 1 4&&decide ((l.length:Int)≤limit)))) ?_ ?_
 ·cases h1:(isT t&&isN self)
  ·simp (disch:=first|omega|assumption|(constructor<;>first|assumption|omega)|simp only[LN];omega) only[↓SB,S1,↓jz,h1]
   simp
  ·repeat' (first | apply And.intro | intro _ | simp (disch:=first|omega|assumption|(constructor<;>first|assumption|omega)|simp only[LN];omega) only[↓SB,S1,↓jz])
   all_goals (simp_all[rng];try (first | omega | exact dlt _ _))
 simp (disch:=first|omega|assumption|(constructor<;>first|assumption|omega)|simp only[LN];omega) only[↓SB,S1,↓jz]
 refine ⟨fun h=>by simp[h],fun h=>?_⟩
 simp only[h,Bool.true_and]
 refine aw.rule (α:=Nat) (fun i=>[I i]) (fun i=>i≤l.length∧ ∃p,(i=0→p=self)∧(0<i→ ∃k,l[i-1]? =some k∧p=k.node∧fD t self p=true)∧lX t p (l.drop i)=lX t self l) (fun i=>l.length-i) 0 rfl ⟨by omega,self,by simp⟩ (fun _=>rfl) ?_
 rintro i ⟨hl,p,hp0,hp1,hs⟩
 simp only[app]
 simp (disch:=first|omega|assumption|(constructor<;>first|assumption|omega)|simp only[LN];omega) only[↓SB,S1,↓jz]
 refine ⟨fun hc=>?_,fun hc=>?_⟩
 ·obtain ⟨x,hx⟩:=am hc
  rw[az hx,Ao] at hs
  simp (disch:=first|omega|assumption|(constructor<;>first|assumption|omega)|simp only[LN];omega) only[↓SB,S1,↓jz,ab hx]
  refine ⟨fun h3=>?_,fun h3=>⟨fun h4=>?_,fun h4=>?_⟩⟩
  ·have hf:lX t self l=false:=by
    rw[←hs]
    cases hn:fD t p x.node with
    | false=>simp
    | true =>
     have hns:fD t self x.node=true:=by
      rcases Nat.eq_zero_or_pos i with h0 | h0
      ·rw[←hp0 h0];exact hn
      ·obtain ⟨k,_,_,hk⟩:=hp1 h0;exact sP hk hn
     rw[hns] at h3
     cases h5:cnt x.inc<;>cases h6:rng x.age 0 6<;>simp_all
   rw[hf];simp
  ·simp only[Bool.and_eq_true] at h3
   obtain ⟨⟨h5,h6⟩,h7⟩:=h3
   obtain ⟨k,hk,rfl,hnk⟩:=hp1 (by omega)
   have e1:((i:Int)-1)=((i-1:Nat):Int):=by omega
   simp (disch:=first|omega|assumption|(constructor<;>first|assumption|omega)|simp only[LN];omega) only[↓SB,S1,↓jz,e1,ab hk]
   refine ⟨fun h8=>?_,fun h8=>⟨i+1,by simp,⟨by omega,x.node,by simp,fun _=>⟨x,by simpa using hx,rfl,h5⟩,?_⟩,by omega⟩⟩
   ·rw[←hs,h8];simp
   ·rw[←hs,h8,h6,h7];simp
  ·simp only[Bool.and_eq_true] at h3
   obtain ⟨⟨h5,h6⟩,h7⟩:=h3
   have h0:i=0:=by omega
   rw[hp0 h0] at hs
   refine ⟨i+1,by simp,⟨by omega,x.node,by simp,fun _=>⟨x,by simpa using hx,rfl,h5⟩,?_⟩,by omega⟩
   rw[←hs,h5,h6,h7];simp
 ·rw[aq hc] at hs
  simp[←hs,lX]
def nN:=And.intro @lu (And.intro @dV (And.intro @ng (@cB)))
theorem Je(t:Int)(self:Int)(limit:Int)(l:List Kid)(hg:ag (gj (t,self,limit,l)).2.1):WW ρ 4 s9 gj (t,self,limit,l):=by
 simp only[gj,RR] at hg ⊢
 unfold s9 ko
 simp only[ag,bV,aR] at hg
 refine SUB.v1 (bb (!(isT t&&isN self&&rng limit 1 4&&decide ((l.length:Int)≤limit)))) ?_ ?_
 ·repeat' (first | apply And.intro | intro _ | simp (disch:=first|omega|assumption|(constructor<;>first|assumption|omega)|simp only[LN];omega) only[↓SB,S1,↓nN])
  all_goals (simp_all;try (first | omega | exact dlt _ _))
 simp (disch:=first|omega|assumption|(constructor<;>first|assumption|omega)|simp only[LN];omega) only[↓SB,S1,↓nN]
 refine ⟨fun h=>by simp[h],fun h=>?_⟩
 simp only[h,Bool.true_and]
 refine aw.rule (α:=Nat×Int) (fun a=>[I a.2,I a.1]) (fun a=>a.1≤l.length∧lX t a.2 (l.drop a.1)=lX t self l) (fun a=>l.length-a.1) (0,self) rfl ⟨by simp,by simp⟩ (fun _=>rfl) ?_
 rintro ⟨i,p⟩ ⟨hl,hs⟩
 simp only[app] at *
 simp (disch:=first|omega|assumption|(constructor<;>first|assumption|omega)|simp only[LN];omega) only[↓SB,S1,↓nN]
 refine ⟨fun hc=>?_,fun hc=>?_⟩
 ·obtain ⟨x,hx⟩:=am hc
  rw[az hx,Ao] at hs
  simp (disch:=first|omega|assumption|(constructor<;>first|assumption|omega)|simp only[LN];omega) only[↓SB,S1,↓nN,ab hx]
  refine ⟨fun h3=>?_,fun h3=>⟨fun h4=>?_,fun h4=>⟨fun h5=>?_,fun h5=>⟨fun h6=>?_,fun h6=>⟨(i+1,x.node),by simp,⟨by omega,?_⟩,by simp;omega⟩⟩⟩⟩⟩
  ·have:fD t p x.node=false:=by
    cases hn:fD t p x.node with
    | false=>rfl
    | true=>have:=(jc hn).2.2.1;rw[dr.2 this] at h3;cases h3
   rw[←hs,this];simp
  ·rw[←hs,h4];simp
  ·rw[←hs];simp[cnt,h5]
  ·rw[←hs,h6];simp
  ·rw[←hs,h4,h6];simp[cnt,h5]
 ·rw[aq hc] at hs
  simp[←hs,lX]
end Go.Xt
end
section
set_option linter.unusedSimpArgs false
set_option linter.unusedVariables false
set_option maxRecDepth 100000
namespace Go.Xt
set_option linter.defProp false
theorem Ap{n:Int}{x:Item}{r:List Item}:dJ n (x::r)=(decide (x.seq=n)&&val x.value&&dJ (n+1) r):=rfl
theorem CJ{m p:Int}{x:Item}{r:List Item}:iB m p (x::r)=(decide (p<x.seq)&&decide (x.seq<m)&&decide (x.seq<1073741824)&&val x.value&&iB m x.seq r):=rfl
theorem sQ{n:Int}(h:cnt n=true):1≤n∧n≤1073741824:=by simpa[cnt,rng] using h
theorem aZ{n a b:Int}(h:rng n a b=true):a≤n∧n≤b:=by simpa[rng] using h
theorem Jf(l:List Item)(want:Int)(hp:cnt want=true∧l.length≤16)(hg:ag (gk (l,want)).2.1):WW ρ 2 sa gk (l,want):=by
 simp only[gk,RR] at hg ⊢
 unfold sa
 obtain ⟨hw,hl16⟩:=hp
 have hw:=sQ hw
 simp (disch:=first|omega|assumption|(constructor<;>first|assumption|omega)|simp only[LN];omega) only[↓SB,S1,↓cn]
 refine aw.rule (α:=Nat) (fun i=>[I i]) (fun i=>i≤l.length∧(0<i→(l.length:Int)<want)∧dJ (want-l.length+i) (l.drop i)=dJ (want-l.length) l) (fun i=>l.length-i) 0 rfl ⟨by omega,by omega,by simp⟩ (fun _=>rfl) ?_
 rintro i ⟨hl,hpos,hs⟩
 simp only[app]
 simp (disch:=first|omega|assumption|(constructor<;>first|assumption|omega)|simp only[LN];omega) only[↓SB,S1,↓cn]
 refine ⟨fun hc=>?_,fun hc=>?_⟩
 ·obtain ⟨x,hx⟩:=am hc
  rw[az hx,Ap] at hs
  simp (disch:=first|omega|assumption|(constructor<;>first|assumption|omega)|simp only[LN];omega) only[↓SB,S1,↓cn,ab hx]
  refine ⟨fun h1=>?_,fun h1=>⟨fun h2=>?_,fun h2=>⟨fun h3=>?_,fun h3=>⟨i+1,by simp,⟨by omega,fun _=>?_,?_⟩,by omega⟩⟩⟩⟩
  ·rw[←hs]
   by_cases h2:x.seq=want-l.length+i
   ·have: ¬(l.length:Int)<want:=fun h=>by omega
    simp[this]
   ·simp[h2]
  ·rw[←hs];simp[h2]
  ·rw[←hs];simp[h3]
  ·rcases Nat.eq_zero_or_pos i with h0 | h0
   ·subst h0;omega
   ·exact hpos h0
  ·rw[←hs,h3];simp[h2,Int.add_assoc]
 ·rw[aq hc] at hs
  rw[←hs]
  have:(l.length:Int)<want:=by
   rcases Nat.eq_zero_or_pos i with h0 | h0
   ·omega
   ·exact hpos h0
  simp[this,dJ]
def sR:=And.intro @bP (@IC)
theorem Jg(l:List Item)(want:Int)(limit:Int)(hg:ag (gl (l,want,limit)).2.1):WW ρ 3 sb gl (l,want,limit):=by
 simp only[gl,RR] at hg ⊢
 unfold sb fX
 simp only[ag,bV,aR] at hg
 cases h1:cnt want
 ·simp (disch:=first|omega|assumption|(constructor<;>first|assumption|omega)|simp only[LN];omega) only[↓SB,S1,↓sR,h1]
  simp
 cases h2:(rng limit 1 16&&decide ((l.length:Int)≤limit))
 ·repeat' (first | apply And.intro | intro _ | simp (disch:=first|omega|assumption|(constructor<;>first|assumption|omega)|simp only[LN];omega) only[↓SB,S1,↓sR])
  all_goals (simp_all[rng];try omega)
 ·simp only[Bool.and_eq_true,decide_eq_true_eq] at h2
  have h3:=aZ h2.1
  rw[h2.1]
  simp (disch:=first|omega|assumption|(constructor<;>first|assumption|omega)|simp only[LN];omega) only[↓SB,S1,↓sR,h1]
  have e1: ¬limit<1:=by omega
  have e2: ¬16<limit:=by omega
  have e3: ¬limit<(l.length:Int):=by omega
  have e4:decide ((l.length:Int)≤limit)=true:=by simp;omega
  refine ⟨fun h=>absurd h e1,fun _=>⟨fun h=>absurd h e2,fun _=>⟨fun h=>absurd h e3,fun _=>?_⟩⟩⟩
  cases h5:(decide ((l.length:Int)<want)&&dJ (want-l.length) l)<;>simp_all
def nO:=And.intro @ij (@cB)
theorem Jh(l:List Item)(want:Int)(limit:Int)(hg:ag (gm (l,want,limit)).2.1):WW ρ 3 sc gm (l,want,limit):=by
 simp only[gm,RR] at hg ⊢
 unfold sc fX
 simp only[ag,bV,aR] at hg
 refine SUB.v1 (bb (!(cnt want&&rng limit 1 16&&decide ((l.length:Int)≤limit)&&decide ((l.length:Int)<want)))) ?_ ?_
 ·repeat' (first | apply And.intro | intro _ | simp (disch:=first|omega|assumption|(constructor<;>first|assumption|omega)|simp only[LN];omega) only[↓SB,S1,↓nO])
  all_goals (simp_all[cnt];try (first | omega | exact dlt _ _))
  all_goals (rw[Bool.eq_iff_iff];simp)
 simp (disch:=first|omega|assumption|(constructor<;>first|assumption|omega)|simp only[LN];omega) only[↓SB,S1,↓nO]
 refine ⟨fun h=>by simp[h],fun h=>?_⟩
 simp only[h,Bool.true_and]
 simp only[Bool.and_eq_true,decide_eq_true_eq] at h
 obtain ⟨⟨⟨h1,h2⟩,h3⟩,h4⟩:=h
 have h1:=sQ h1
 have h2:=aZ h2
 refine aw.rule (α:=Nat) (fun i=>[I i]) (fun i=>i≤l.length∧dJ (want-l.length+i) (l.drop i)=dJ (want-l.length) l) (fun i=>l.length-i) 0 rfl ⟨by omega,by simp⟩ (fun _=>rfl) ?_
 rintro i ⟨hl,hs⟩
 simp only[app]
 simp (disch:=first|omega|assumption|(constructor<;>first|assumption|omega)|simp only[LN];omega) only[↓SB,S1,↓nO]
 refine ⟨fun hc=>?_,fun hc=>?_⟩
 ·obtain ⟨x,hx⟩:=am hc
  rw[az hx,Ap] at hs
  simp (disch:=first|omega|assumption|(constructor<;>first|assumption|omega)|simp only[LN];omega) only[↓SB,S1,↓nO,ab hx]
  refine ⟨fun h2=>?_,fun h2=>⟨fun h3=>?_,fun h3=>⟨i+1,by simp,⟨by omega,?_⟩,by omega⟩⟩⟩
  ·rw[←hs];simp[h2]
  ·rw[←hs];simp[h3]
  ·rw[←hs,h3];simp[h2,Int.add_assoc]
 ·rw[aq hc] at hs
  rw[←hs];simp[dJ]
def jV:=And.intro @cn (And.intro @bP (@IE))
theorem Fc(l:List Item)(want:Int)(window:Int)(hg:ag (eS (l,want,window)).2.1):WW ρ 3 qe eS (l,want,window):=by
 simp only[eS,RR] at hg ⊢
 unfold qe mJ
 simp only[ag,bV,aR] at hg
 refine SUB.v1 (bb (!(cnt want&&rng window 1 16))) ?_ ?_
 ·repeat' (first | apply And.intro | intro _ | simp (disch:=first|omega|assumption|(constructor<;>first|assumption|omega)|simp only[LN];omega) only[↓SB,S1,↓jV])
  all_goals (simp_all[rng];try (first | omega | exact dlt _ _))
 simp (disch:=first|omega|assumption|(constructor<;>first|assumption|omega)|simp only[LN];omega) only[↓SB,S1,↓jV]
 refine ⟨fun h=>by simp[h],fun h=>?_⟩
 simp only[h,Bool.true_and]
 simp only[Bool.and_eq_true,decide_eq_true_eq] at h
 obtain ⟨h1',h2'⟩:=h
 have h1:=sQ h1'
 have h2:=aZ h2'
 refine aw.rule (α:=Nat) (fun i=>[I i]) (fun i=>i≤l.length∧ ∃p,(i=0→p=want)∧(0<i→ ∃k,l[i-1]? =some k∧p=k.seq)∧want≤p∧iB (want+window) p (l.drop i)=iB (want+window) want l) (fun i=>l.length-i) 0 rfl ⟨by omega,want,by simp⟩ (fun _=>rfl) ?_
 rintro i ⟨hl,p,hp0,hp1,hwp,hs⟩
 simp only[app]
 simp (disch:=first|omega|assumption|(constructor<;>first|assumption|omega)|simp only[LN];omega) only[↓SB,S1,↓jV]
 refine ⟨fun hc=>?_,fun hc=>?_⟩
 ·obtain ⟨x,hx⟩:=am hc
  rw[az hx,CJ] at hs
  simp (disch:=first|omega|assumption|(constructor<;>first|assumption|omega)|simp only[LN];omega) only[↓SB,S1,↓jV,ab hx]
  refine ⟨fun h3=>?_,fun h3=>⟨fun h4=>?_,fun h4=>⟨fun h5=>?_,fun h5=>?_⟩⟩⟩
  ·have:(decide (p<x.seq)&&decide (x.seq<want+window)&&decide (x.seq<1073741824))=false:=by
    rw[Bool.eq_false_iff] at h3 ⊢
    intro h6;apply h3
    simp only[Bool.and_eq_true,decide_eq_true_eq] at h6 ⊢
    omega
   rw[←hs,this];simp
  ·rw[←hs,h4];simp
  ·obtain ⟨k,hk,rfl⟩:=hp1 (by omega)
   have e1:((i:Int)-1)=((i-1:Nat):Int):=by omega
   simp (disch:=first|omega|assumption|(constructor<;>first|assumption|omega)|simp only[LN];omega) only[↓SB,S1,↓jV,e1,ab hk]
   simp only[Bool.and_eq_true,decide_eq_true_eq] at h3
   refine ⟨fun h8=>?_,fun h8=>⟨i+1,by simp,⟨by omega,x.seq,by simp,fun _=>⟨x,by simpa using hx,rfl⟩,by omega,?_⟩,by omega⟩⟩
   ·rw[←hs];simp[show ¬k.seq<x.seq by omega]
   ·rw[←hs,h4];simp[show k.seq<x.seq by omega,h3]
  ·have h0:i=0:=by omega
   rw[hp0 h0] at hs
   simp only[Bool.and_eq_true,decide_eq_true_eq] at h3
   refine ⟨i+1,by simp,⟨by omega,x.seq,by simp,fun _=>⟨x,by simpa using hx,rfl⟩,by omega,?_⟩,by omega⟩
   rw[←hs,h4];simp[h3]
 ·rw[aq hc] at hs
  simp[←hs,iB]
def jd:=And.intro @ij (@cB)
theorem CK(l:List Item)(want:Int)(window:Int)(hg:ag (dM (l,want,window)).2.1):WW ρ 3 oF dM (l,want,window):=by
 simp only[dM,RR] at hg ⊢
 unfold oF mJ
 simp only[ag,bV,aR] at hg
 refine SUB.v1 (bb (!(cnt want&&rng window 1 16))) ?_ ?_
 ·repeat' (first | apply And.intro | intro _ | simp (disch:=first|omega|assumption|(constructor<;>first|assumption|omega)|simp only[LN];omega) only[↓SB,S1,↓jd])
  all_goals (simp_all[cnt];try (first | omega | exact dlt _ _))
 simp (disch:=first|omega|assumption|(constructor<;>first|assumption|omega)|simp only[LN];omega) only[↓SB,S1,↓jd]
 refine ⟨fun h=>by simp[h],fun h=>?_⟩
 simp only[h,Bool.true_and]
 simp only[Bool.and_eq_true,decide_eq_true_eq] at h
 obtain ⟨h1',h2'⟩:=h
 have h1:=sQ h1'
 have h2:=aZ h2'
 refine aw.rule (α:=Nat) (fun i=>[I i]) (fun i=>i≤l.length∧ ∃p,(i=0→p=want)∧(0<i→ ∃k,l[i-1]? =some k∧p=k.seq)∧want≤p∧iB (want+window) p (l.drop i)=iB (want+window) want l) (fun i=>l.length-i) 0 rfl ⟨by omega,want,by simp⟩ (fun _=>rfl) ?_
 rintro i ⟨hl,p,hp0,hp1,hwp,hs⟩
 simp only[app]
 simp (disch:=first|omega|assumption|(constructor<;>first|assumption|omega)|simp only[LN];omega) only[↓SB,S1,↓jd]
 refine ⟨fun hc=>?_,fun hc=>?_⟩
 ·obtain ⟨x,hx⟩:=am hc
  rw[az hx,CJ] at hs
  simp (disch:=first|omega|assumption|(constructor<;>first|assumption|omega)|simp only[LN];omega) only[↓SB,S1,↓jd,ab hx]
  refine ⟨fun h3=>?_,fun h3=>⟨fun h4=>?_,fun h4=>⟨fun h5=>?_,fun h5=>⟨fun h6=>?_,fun h6=>?_⟩⟩⟩⟩
  ·rw[←hs];simp[show ¬p<x.seq by omega]
  ·rw[←hs];simp[show ¬x.seq<want+window by omega]
  ·rw[←hs];simp[show ¬x.seq<1073741824 by omega]
  ·obtain ⟨k,hk,rfl⟩:=hp1 (by omega)
   have e1:((i:Int)-1)=((i-1:Nat):Int):=by omega
   simp (disch:=first|omega|assumption|(constructor<;>first|assumption|omega)|simp only[LN];omega) only[↓SB,S1,↓jd,e1,ab hk]
   refine ⟨fun h8=>?_,fun h8=>⟨fun h9=>?_,fun h9=>⟨i+1,by simp,⟨by omega,x.seq,by simp,fun _=>⟨x,by simpa using hx,rfl⟩,by omega,?_⟩,by omega⟩⟩⟩
   ·rw[←hs];simp[show ¬k.seq<x.seq by omega]
   ·rw[←hs,h9];simp
   ·rw[←hs,h9];simp[show k.seq<x.seq by omega,show x.seq<want+window by omega,show x.seq<1073741824 by omega]
  ·have h0:i=0:=by omega
   rw[hp0 h0] at hs
   refine ⟨fun h9=>?_,fun h9=>⟨i+1,by simp,⟨by omega,x.seq,by simp,fun _=>⟨x,by simpa using hx,rfl⟩,by omega,?_⟩,by omega⟩⟩
   ·rw[←hs,h9];simp
   ·rw[←hs,h9];simp[show want<x.seq by omega,show x.seq<want+window by omega,show x.seq<1073741824 by omega]
 ·rw[aq hc] at hs
  simp[←hs,iB]
end Go.Xt
end
section
set_option linter.unusedSimpArgs false
set_option linter.unusedVariables false
set_option maxRecDepth 100000
namespace Go.Xt
set_option linter.defProp false
def im:=And.intro @cn (And.intro @bP (And.intro @et (@jT)))
theorem Fd(x:Event):WW ρ 6 qf ib x:=by
 simp only[ib,RR]
 unfold qf
 generalize hE:ec x=q
 unfold ec at hE
 by_cases k1:x.kind=1
 ·rw[eH,decide_eq_true k1,jM]
  simp (disch:=first|omega|assumption|(constructor<;>first|assumption|omega)|simp only[LN];omega) only[↓S0,S3,S2,S1,↓im,k1]
  simp only[k1,if_true] at hE
  subst hE
  cases ep x.epoch<;>cases cnt x.seq<;>cases val x.value<;>by_cases h1:x.last=0<;>by_cases h2:x.count=0<;>simp[h1,h2]
 by_cases k2:x.kind=2
 ·rw[eH,decide_eq_false k1,bn,eH,decide_eq_true k2,jM]
  simp (disch:=first|omega|assumption|(constructor<;>first|assumption|omega)|simp only[LN];omega) only[↓S0,S3,S2,S1,↓im,k2]
  simp only[k2,if_true] at hE
  simp at hE
  subst hE
  cases ep x.epoch<;>cases cnt x.seq<;>by_cases h3:x.seq≤x.last<;>by_cases h4:x.last≤1073741824<;>by_cases h1:x.value=0<;>by_cases h2:x.count=0<;>simp[h1,h2,h3,h4,rng]
 by_cases k3:x.kind=3
 ·rw[eH,decide_eq_false k1,bn,eH,decide_eq_false k2,bn,eH,decide_eq_true k3,jM]
  simp (disch:=first|omega|assumption|(constructor<;>first|assumption|omega)|simp only[LN];omega) only[↓S0,S3,S2,S1,↓im,k3]
  simp[k3] at hE
  subst hE
  cases isN x.value<;>by_cases h3:1≤x.count<;>by_cases h4:x.count≤40<;>by_cases h1:x.epoch=0<;>by_cases h2:x.seq=0<;>by_cases h5:x.last=0<;>simp[h1,h2,h3,h4,h5,rng]
 by_cases k4:x.kind=4
 ·rw[eH,decide_eq_false k1,bn,eH,decide_eq_false k2,bn,eH,decide_eq_false k3,bn,eH,decide_eq_true k4,jM]
  simp (disch:=first|omega|assumption|(constructor<;>first|assumption|omega)|simp only[LN];omega) only[↓S0,S3,S2,S1,↓im,k4]
  simp[k4] at hE
  subst hE
  by_cases h3:1≤x.count<;>by_cases h4:x.count≤40<;>by_cases h1:x.epoch=0<;>by_cases h2:x.seq=0<;>by_cases h5:x.last=0<;>by_cases h6:x.value=0<;>simp[h1,h2,h3,h4,h5,h6,rng]
 by_cases k5:x.kind=5
 ·rw[eH,decide_eq_false k1,bn,eH,decide_eq_false k2,bn,eH,decide_eq_false k3,bn,eH,decide_eq_false k4,bn,eH,decide_eq_true k5,jM]
  simp (disch:=first|omega|assumption|(constructor<;>first|assumption|omega)|simp only[LN];omega) only[↓S0,S3,S2,S1,↓im,k5]
  simp[k5] at hE
  subst hE
  by_cases h3:x.count=0<;>by_cases h1:x.epoch=0<;>by_cases h2:x.seq=0<;>by_cases h5:x.last=0<;>by_cases h6:x.value=0<;>simp[h1,h2,h3,h5,h6]
 ·rw[eH,decide_eq_false k1,bn,eH,decide_eq_false k2,bn,eH,decide_eq_false k3,bn,eH,decide_eq_false k4,bn,eH,decide_eq_false k5,bn]
  simp (disch:=first|omega|assumption|(constructor<;>first|assumption|omega)|simp only[LN];omega) only[↓S0,S3,S2,S1,↓im]
  simp[k1,k2,k3,k4,k5] at hE
  subst hE
  simp
def io:=And.intro @ij (And.intro @dV (And.intro @cB (And.intro @pN (@vR))))
theorem Fe(x:Event):WW ρ 6 qg ic x:=by
 simp only[ic,RR]
 unfold qg
 generalize hE:ec x=q
 unfold ec at hE
 by_cases k1:x.kind=1
 ·simp (disch:=first|omega|assumption|(constructor<;>first|assumption|omega)|simp only[LN];omega) only[↓S0,S3,S2,S1,↓io,k1]
  simp only[k1,if_true] at hE
  subst hE
  cases ep x.epoch<;>cases cnt x.seq<;>cases val x.value<;>simp
 by_cases k2:x.kind=2
 ·simp (disch:=first|omega|assumption|(constructor<;>first|assumption|omega)|simp only[LN];omega) only[↓S0,S3,S2,S1,↓io,k2]
  simp[k2] at hE
  subst hE
  cases ep x.epoch<;>cases cnt x.seq<;>cases rng x.last x.seq 1073741824<;>simp
 by_cases k3:x.kind=3
 ·simp (disch:=first|omega|assumption|(constructor<;>first|assumption|omega)|simp only[LN];omega) only[↓S0,S3,S2,S1,↓io,k3]
  simp[k3] at hE
  subst hE
  cases isN x.value<;>cases rng x.count 1 40<;>simp[Bool.and_assoc]
 by_cases k4:x.kind=4
 ·simp (disch:=first|omega|assumption|(constructor<;>first|assumption|omega)|simp only[LN];omega) only[↓S0,S3,S2,S1,↓io,k4]
  simp[k4] at hE
  subst hE
  cases rng x.count 1 40<;>simp[Bool.and_assoc]
 by_cases k5:x.kind=5
 ·simp (disch:=first|omega|assumption|(constructor<;>first|assumption|omega)|simp only[LN];omega) only[↓S0,S3,S2,S1,↓io,k5]
  simp[k5] at hE
  subst hE
  simp[Bool.and_assoc]
 ·simp (disch:=first|omega|assumption|(constructor<;>first|assumption|omega)|simp only[LN];omega) only[↓S0,S3,S2,S1,↓io,k1,k2,k3,k4,k5]
  simp[k1,k2,k3,k4,k5] at hE
  subst hE
  simp
end Go.Xt
end
section
set_option linter.unusedSimpArgs false
set_option linter.unusedVariables false
set_option maxRecDepth 100000
namespace Go.Xt
set_option linter.defProp false
theorem Aq{l:List Event}{x:Event}(h:l[l.length-1]? =some x):nH l=decide (x.kind=2):=by
 unfold nH
 rw[List.getLast?_eq_getElem?,h]
theorem Mc{α:Type}{l:List α}(h:0<l.length): ∃x,l[l.length-1]? =some x:=⟨l[l.length-1]'(by omega),by simp[show l.length-1<l.length by omega]⟩
theorem Ff(l:List Event)(limit:Int)(hg:ag (eT (l,limit)).2.1):WW ρ 2 qh eT (l,limit):=by
 simp only[eT,RR] at hg ⊢
 unfold qh
 simp only[ag,bV,aR] at hg
 refine SUB.v1 (bb (!(rng limit 2 32&&decide ((l.length:Int)≤limit)))) ?_ ?_
 ·repeat' (first | apply And.intro | intro _ | simp (disch:=first|omega|assumption|(constructor<;>first|assumption|omega)|simp only[LN];omega) only[↓SB,S1,↓dc])
  all_goals (simp_all[rng];try (first | omega | exact dlt _ _))
 cases hr:(rng limit 2 32&&decide ((l.length:Int)≤limit))
 ·refine SUB.v1 (bb true) (by simp (disch:=first|omega|assumption|(constructor<;>first|assumption|omega)|simp only[LN];omega) only[↓SB,S1,↓dc]) ?_
  simp (disch:=first|omega|assumption|(constructor<;>first|assumption|omega)|simp only[LN];omega) only[↓SB,S1,↓dc]
  simp[bh,hr]
 simp only[Bool.and_eq_true,decide_eq_true_eq] at hr
 have hb:=aZ hr.1
 refine SUB.v1 (bb (!(l.all ec))) ?_ ?_
 ·simp (disch:=first|omega|assumption|(constructor<;>first|assumption|omega)|simp only[LN];omega) only[↓SB,S1,↓dc]
  refine aw.rule (α:=Nat) (fun i=>[I i]) (fun i=>i≤l.length∧(l.drop i).all (ec)=l.all (ec)) (fun i=>l.length-i) 0 rfl ⟨by omega,by simp⟩ (fun _=>rfl) ?_
  rintro i ⟨hl_i,hs_i⟩
  simp only[app]
  simp (disch:=first|omega|assumption|(constructor<;>first|assumption|omega)|simp only[LN];omega) only[↓SB,S1,↓dc]
  refine ⟨fun hc_i=>?_,fun hc_i=>?_⟩
  ·obtain ⟨x,hx⟩:=am hc_i
   rw[az hx,List.all_cons] at hs_i
   simp (disch:=first|omega|assumption|(constructor<;>first|assumption|omega)|simp only[LN];omega) only[↓SB,S1,↓dc,ab hx]
   refine ⟨fun h3=>?_,fun h3=>⟨i+1,rfl,⟨by omega,by rw[←hs_i];cases he:ec x<;>simp_all⟩,by omega⟩⟩
   have:ec x=false:=by cases he:ec x<;>simp_all
   rw[←hs_i,this];simp
  ·rw[aq hc_i] at hs_i
   rw[←hs_i];simp
 simp (disch:=first|omega|assumption|(constructor<;>first|assumption|omega)|simp only[LN];omega) only[↓SB,S1,↓dc]
 unfold bh
 refine ⟨fun h=>by simp[h],fun h=>⟨fun h2=>?_,fun h2=>?_⟩⟩
 ·have h0:0<l.length:=by omega
  obtain ⟨x,hx⟩:=Mc h0
  have e1:limit-1=((l.length-1:Nat):Int):=by omega
  simp (disch:=first|omega|assumption|(constructor<;>first|assumption|omega)|simp only[LN];omega) only[↓SB,S1,↓dc,e1,ab hx]
  have e2:decide ((l.length:Int)<limit)=false:=by simp;omega
  rw[Aq hx,hr.1,e2,h]
  by_cases hk:x.kind=2<;>simp[hk]<;>omega
 ·have e2:decide ((l.length:Int)<limit)=true:=by simp;omega
  have e3:decide ((l.length:Int)≤limit)=true:=by simp;omega
  rw[hr.1,e2,e3,h];simp
def iq:=And.intro @cB (@EP)
theorem Fg(l:List Event)(limit:Int)(hg:ag (eU (l,limit)).2.1):WW ρ 2 qi eU (l,limit):=by
 simp only[eU,RR] at hg ⊢
 unfold qi
 simp only[ag,bV,aR] at hg
 refine SUB.v1 (bb (!(rng limit 2 32&&decide ((l.length:Int)≤limit)))) ?_ ?_
 ·repeat' (first | apply And.intro | intro _ | simp (disch:=first|omega|assumption|(constructor<;>first|assumption|omega)|simp only[LN];omega) only[↓SB,S1,↓iq])
  all_goals (simp_all;try (first | omega | exact dlt _ _))
 cases hr:(rng limit 2 32&&decide ((l.length:Int)≤limit))
 ·simp (disch:=first|omega|assumption|(constructor<;>first|assumption|omega)|simp only[LN];omega) only[↓SB,S1,↓iq]
  simp[bh,hr]
 simp only[Bool.and_eq_true,decide_eq_true_eq] at hr
 have hb:=aZ hr.1
 have e3:decide ((l.length:Int)≤limit)=true:=by simp;omega
 unfold bh
 rw[hr.1,e3]
 simp (disch:=first|omega|assumption|(constructor<;>first|assumption|omega)|simp only[LN];omega) only[↓SB,S1,↓iq]
 refine aw.rule (α:=Nat) (fun i=>[I i]) (fun i=>i≤l.length∧(l.drop i).all (ec)=l.all (ec)) (fun i=>l.length-i) 0 rfl ⟨by omega,by simp⟩ (fun _=>rfl) ?_
 rintro i ⟨hl_i,hs_i⟩
 simp only[app]
 simp (disch:=first|omega|assumption|(constructor<;>first|assumption|omega)|simp only[LN];omega) only[↓SB,S1,↓iq]
 refine ⟨fun hc_i=>?_,fun hc_i=>?_⟩
 ·obtain ⟨x,hx⟩:=am hc_i
  rw[az hx,List.all_cons] at hs_i
  simp (disch:=first|omega|assumption|(constructor<;>first|assumption|omega)|simp only[LN];omega) only[↓SB,S1,↓iq,ab hx]
  refine ⟨fun h3=>?_,fun h3=>⟨i+1,rfl,⟨by omega,by rw[←hs_i,h3];simp⟩,by omega⟩⟩
  rw[←hs_i,h3];simp
 ·rw[aq hc_i] at hs_i
  rw[←hs_i]
  refine ⟨fun h=>by simp[h],fun h=>?_⟩
  have h0:0<l.length:=by omega
  obtain ⟨x,hx⟩:=Mc h0
  have e1:(l.length:Int)-1=((l.length-1:Nat):Int):=by omega
  have e2:decide ((l.length:Int)<limit)=false:=by simp;omega
  simp (disch:=first|omega|assumption|(constructor<;>first|assumption|omega)|simp only[LN];omega) only[↓SB,S1,↓iq,e1,ab hx]
  rw[Aq hx,e2];simp
def Ji:=And.intro @bP (And.intro @jT (And.intro @EO (And.intro @xZ (@LA))))
theorem Jj(c:Config)(s:Stream)(hg:ag (gn (c,s)).2.1):WW ρ 12 se gn (c,s):=by
 simp only[gn,RR] at hg ⊢
 unfold se
 simp (disch:=first|omega|assumption|(constructor<;>first|assumption|omega)|simp only[LN];omega) only[↓S0,S3,S2,S1,↓Ji]
 unfold jN
 cases nI s<;>cases ep s.epoch<;>cases cnt s.want<;>cases fX s.kept s.want c.keep<;>cases mJ s.ahead s.want c.window<;>simp[rng]
def Jk:=And.intro @nh (And.intro @vS (@IF))
theorem Jl(c:Config)(s:Stream)(q:List Event)(hg:ag (go (c,s,q)).2.1):WW ρ 13 sf go (c,s,q):=by
 simp only[go,RR] at hg ⊢
 unfold sf
 simp (disch:=first|omega|assumption|(constructor<;>first|assumption|omega)|simp only[LN];omega) only[↓S0,S3,S2,S1,↓Jk]
 unfold dK
 cases bx c<;>cases jN c s<;>cases bh q c.queue<;>simp
theorem Oh(s:Stream):decide (s=⟨0,0,0,[],[]⟩)=nI s:=by
 rw[Bool.eq_iff_iff];simp[nI,Stream.eq_iff,and_assoc]
def CL:=And.intro @ue (And.intro @cB (And.intro @pN (And.intro @vR (And.intro @ID (@Cp)))))
theorem CM(c:Config)(s:Stream)(hg:ag (dN (c,s)).2.1):WW ρ 12 oG dN (c,s):=by
 simp only[dN,RR] at hg ⊢
 unfold oG
 simp (disch:=first|omega|assumption|(constructor<;>first|assumption|omega)|simp only[LN];omega) only[↓S0,S3,S2,S1,↓CL,Oh]
 unfold jN
 cases nI s<;>simp[Bool.and_assoc]
def Jm:=And.intro @Cq (@EQ)
theorem Jn(c:Config)(s:Stream)(q:List Event)(hg:ag (gp (c,s,q)).2.1):WW ρ 13 sg gp (c,s,q):=by
 simp only[gp,RR] at hg ⊢
 unfold sg
 simp (disch:=first|omega|assumption|(constructor<;>first|assumption|omega)|simp only[LN];omega) only[↓S0,S3,S2,S1,↓Jm]
 unfold dK
 try simp
def jW:=And.intro @IA (And.intro @IH (And.intro @Cr (And.intro @Cs (And.intro @Iu (@yb)))))
theorem Fh(c:Config)(t:Int)(self:Int)(x:Topic)(hp:bx c=true)(hg:ag (eV (c,t,self,x)).2.1):WW ρ 25 qj eV (c,t,self,x):=by
 simp only[eV,RR] at hg ⊢
 unfold qj
 generalize hE:aM c t self x=q
 refine SUB.v1 (bb (!(rng x.top 0 1073741824&&rng x.age 0 1000))) ?_ ?_
 ·repeat' (first | apply And.intro | intro _ | simp (disch:=first|omega|assumption|(constructor<;>first|assumption|omega)|simp only[LN];omega) only[↓SB,S1,↓jW])
  all_goals (simp_all[rng];try (first | omega | exact dlt _ _))
 unfold aM at hE
 cases h1:(rng x.top 0 1073741824&&rng x.age 0 1000)
 ·rw[h1] at hE
  simp (disch:=first|omega|assumption|(constructor<;>first|assumption|omega)|simp only[LN];omega) only[↓SB,S1,↓jW]
  simp[←hE]
 rw[Bool.not_true,bn]
 refine SUB.v1 (bb (iu t self x.parent&&iu t self x.asked&&iu t self x.other)) ?_ ?_
 ·simp (disch:=first|omega|assumption|(constructor<;>first|assumption|omega)|simp only[LN];omega) only[↓S0,S3,S2,S1,↓jW]
  simp[Bool.and_assoc]
 cases h2:(iu t self x.parent&&iu t self x.asked&&iu t self x.other)
 ·simp (disch:=first|omega|assumption|(constructor<;>first|assumption|omega)|simp only[LN];omega) only[↓SB,S1,↓jW]
  rw[←hE]
  cases h3:iu t self x.parent<;>cases h4:iu t self x.asked<;>cases h5:iu t self x.other<;>simp_all
 simp only[Bool.and_eq_true] at h2
 have hpar:0≤x.parent∧x.parent≤8:=by
  have:=h2.1.1
  simp only[iu,Bool.or_eq_true,Bool.and_eq_true,decide_eq_true_eq] at this
  rcases this with h | ⟨h,h'⟩
  ·omega
  ·have:=(jc h').2.1;omega
 rw[h1] at hE
 rw[h2.1.1,h2.1.2,h2.2] at hE
 simp (disch:=first|omega|assumption|(constructor<;>first|assumption|omega)|simp only[LN];omega) only[↓S0,S3,S2,S1,↓jW,hp]
 rw[←hE]
 cases lY self x<;>cases mW x<;>cases ko t self c.kids x.kids<;>cases dK c x.stream x.queue<;>by_cases h9:chk t self x.path c.depth=0<;>simp[h9]
def vW:=And.intro @nh (@ER)
theorem Fi(c:Config)(t:Int)(self:Int)(x:Topic)(hg:ag (eW (c,t,self,x)).2.1):WW ρ 25 qk eW (c,t,self,x):=by
 simp only[eW,RR] at hg ⊢
 unfold qk
 cases hc:bx c
 ·simp (disch:=first|omega|assumption|(constructor<;>first|assumption|omega)|simp only[LN];omega) only[↓SB,S1,↓vW,hc]
  simp
 ·simp (disch:=first|omega|assumption|(constructor<;>first|assumption|omega)|simp only[LN];omega) only[↓SB,S1,↓vW,hc]
  unfold jO
  refine ⟨fun h=>?_,fun h=>⟨fun h1=>?_,fun h1=>⟨fun h2=>?_,fun h2=>⟨fun h3=>?_,fun h3=>?_⟩⟩⟩⟩
  ·simp[rng,show ¬0≤t by omega]
  ·simp[rng,show ¬t≤c.topics-1 by omega]
  ·simp[rng,show ¬0≤self by omega]
  ·simp[rng,show ¬self≤c.nodes-1 by omega]
  ·have e1:rng t 0 (c.topics-1)=true:=by simp[rng];omega
   have e2:rng self 0 (c.nodes-1)=true:=by simp[rng];omega
   rw[e1,e2]
   cases aM c t self x<;>simp
end Go.Xt
end
section
set_option linter.unusedSimpArgs false
set_option linter.unusedVariables false
set_option maxRecDepth 100000
namespace Go.Xt
set_option linter.defProp false
theorem dh{c:Config}(h:bx c=true):(1≤c.nodes∧c.nodes≤8)∧(1≤c.topics∧c.topics≤4)∧(1≤c.kids∧c.kids≤4)∧(1≤c.depth∧c.depth≤8)∧(1≤c.keep∧c.keep≤16)∧(1≤c.window∧c.window≤16)∧(2≤c.queue∧c.queue≤32):=by
 simp only[bx,rng,Bool.and_eq_true,decide_eq_true_eq] at h
 obtain ⟨⟨⟨⟨⟨⟨a,b⟩,d⟩,e⟩,f⟩,g⟩,i⟩:=h
 exact ⟨a,b,d,e,f,g,i⟩
theorem uL{c:Config}{t self:Int}(hc:bx c=true)(h:jO c t self=true):isT t=true∧isN self=true∧(0≤t∧t<c.topics)∧(0≤self∧self<c.nodes):=by
 have hb:=dh hc
 simp only[jO,Bool.and_eq_true] at h
 have h1:=aZ h.1;have h2:=aZ h.2
 exact ⟨jy.2 (by omega),dr.2 (by omega),by omega,by omega⟩
theorem Rz{t self c:Int}{l:List Int}(ht:isT t=true)(hs:isN self=true)(h1:1≤c)(h2:c≤8):chk t self l c=PS t self l c:=by
 simp[chk,PS,ht,hs,h1,h2]
theorem RA{t self c:Int}{l:List Int}(h:PS t self l c=0):l.all isN=true:=by
 unfold PS at h
 by_cases e:l.all isN=true
 ·exact e
 ·rw[if_neg e] at h;omega
theorem Jo{t self n:Int}(h:iu t self n=true):0≤n∧n≤8:=by
 simp only[iu,Bool.or_eq_true,Bool.and_eq_true,decide_eq_true_eq] at h
 rcases h with h | ⟨h,h'⟩
 ·omega
 ·have:=(jc h').2.1;omega
def nP(x:Topic):Bool:=(decide (0<x.path.length) == decide (0<x.parent))&&match x.path with | []=>true | p::_=>decide (p=x.parent-1)
theorem Oi{t self:Int}{x:Topic}(hl:iu t self x.parent=true)(hp:x.path.all isN=true):mW x=nP x:=by
 have hb:=Jo hl
 unfold mW nP
 cases hx:x.path with
 | nil =>
  rw[Bool.eq_iff_iff];simp;omega
 | cons p r =>
  rw[hx,List.all_cons,Bool.and_eq_true] at hp
  have:=dr.1 hp.1
  have hw:IntKind.i64.wrap (p+1)=p+1:=wr (by omega) (by omega)
  simp only[hw]
  rw[Bool.eq_iff_iff];simp;omega
def jX:=And.intro @cB (And.intro @pN (And.intro @II (And.intro @Iv (And.intro @IB (@IG)))))
theorem Fj(c:Config)(t:Int)(self:Int)(x:Topic)(hp:bx c=true∧jO c t self=true)(hg:ag (eX (c,t,self,x)).2.1):WW ρ 25 ql eX (c,t,self,x):=by
 simp only[eX,RR] at hg ⊢
 unfold ql
 generalize hE:aM c t self x=q
 obtain ⟨hc,hpl⟩:=hp
 have hb:=dh hc
 obtain ⟨ht,hs,ht2,hs2⟩:=uL hc hpl
 simp only[ag,bV,aR] at hg
 unfold aM at hE
 rw[Rz ht hs hb.2.2.2.1.1 hb.2.2.2.1.2] at hE
 have hroot:lY self x=((decide (x.root=0)||(ep x.root&&decide (x.root % 16=self)&&decide (x.root≤x.top)))&&(decide (x.root=0)||(decide (x.parent=0)&&decide (x.stream.epoch=x.root)))):=by
  unfold lY
  cases h:decide (x.root=0)<;>simp[Bool.and_assoc]
 rw[hroot] at hE
 refine SUB.v1 (bb (!(rng x.top 0 1073741824&&(decide (x.root=0)||(ep x.root&&decide (x.root % 16=self)&&decide (x.root≤x.top)))&&iu t self x.parent&&iu t self x.asked&&iu t self x.other&&rng x.age 0 1000))) ?_ ?_
 ·cases he:ep x.root
  ·repeat' (first | apply And.intro | intro _ | simp (disch:=first|omega|assumption|(constructor<;>first|assumption|omega)|simp only[LN];omega) only[↓SB,S1,↓jX])
   all_goals simp_all
  ·have h0:0≤x.root:=by simp only[ep,rng,Bool.and_eq_true,decide_eq_true_eq] at he;omega
   repeat' (first | apply And.intro | intro _ | simp (disch:=first|omega|assumption|(constructor<;>first|assumption|omega)|simp only[LN];omega) only[↓SB,S1,↓jX])
   all_goals simp_all
   all_goals omega
 cases hA:(rng x.top 0 1073741824&&(decide (x.root=0)||(ep x.root&&decide (x.root % 16=self)&&decide (x.root≤x.top)))&&iu t self x.parent&&iu t self x.asked&&iu t self x.other&&rng x.age 0 1000)
 ·simp (disch:=first|omega|assumption|(constructor<;>first|assumption|omega)|simp only[LN];omega) only[↓SB,S1,↓jX]
  rw[←hE]
  clear hE hroot
  revert hA
  cases rng x.top 0 1073741824<;>cases rng x.age 0 1000<;>cases iu t self x.parent<;>cases iu t self x.asked<;>cases iu t self x.other<;>cases (decide (x.root=0)||(ep x.root&&decide (x.root % 16=self)&&decide (x.root≤x.top)))<;>simp
 simp only[Bool.and_eq_true] at hA
 obtain ⟨⟨⟨⟨⟨A1,A2⟩,A3⟩,A4⟩,A5⟩,A6⟩:=hA
 rw[A1,A2,A3,A4,A5,A6] at hE
 simp only[Bool.true_and] at hE
 have hlb:=Jo A3
 simp (disch:=first|omega|assumption|(constructor<;>first|assumption|omega)|simp only[LN];omega) only[↓SB,S1,↓jX]
 refine ⟨fun h=>?_,fun h=>?_⟩
 ·rw[←hE];simp[h]
 have h0:=RA h
 rw[Oi A3 h0] at hE
 simp only[h,eq_self,decide_true,Bool.and_true] at hE
 refine ⟨fun h1=>?_,fun h1=>?_⟩
 ·rw[←hE]
  have:nP x=false:=by
   unfold nP
   rw[Bool.and_eq_false_iff];left
   revert h1
   by_cases a:0<x.path.length<;>by_cases b:0<x.parent<;>simp[a,b]
  rw[this];simp
 have fin:nP x=true→(¬x.root=0→(¬x.parent=0→[bb false]=[bb q])∧(x.parent=0→(¬x.stream.epoch=x.root→[bb false]=[bb q])∧(x.stream.epoch=x.root →
   (ko t self c.kids x.kids=true→[bb (dK c x.stream x.queue)]=[bb q])∧(ko t self c.kids x.kids=false→[bb false]=[bb q])))) ∧
   (x.root=0→(ko t self c.kids x.kids=true→[bb (dK c x.stream x.queue)]=[bb q])∧(ko t self c.kids x.kids=false→[bb false]=[bb q])):=by
  intro hp2
  rw[←hE,hp2]
  by_cases r0:x.root=0<;>by_cases p0:x.parent=0<;>by_cases e0:x.stream.epoch=x.root<;>cases ko t self c.kids x.kids<;>simp[r0,p0,e0]
 refine ⟨fun h2=>?_,fun h2=>fin ?_⟩
 ·cases hx:x.path with
  | nil=>rw[hx] at h2;simp at h2
  | cons p r =>
   have h3:(0:Int)<((p::r).length:Nat):=by simp
   have hp3:0<x.parent:=by
    revert h1;rw[hx]
    by_cases b:0<x.parent<;>simp[b]
   simp (disch:=first|omega|assumption|(constructor<;>first|assumption|omega)|simp only[LN];omega) only[↓SB,S1,↓jX]
   refine ⟨fun h4=>?_,fun h4=>fin ?_⟩
   ·rw[←hE]
    have:nP x=false:=by unfold nP;rw[hx];simp[h4]
    rw[this];simp
   ·unfold nP;rw[hx];simp[hp3,h4]
 ·unfold nP
  cases hx:x.path with
  | nil =>
   revert h1;rw[hx]
   by_cases b:0<x.parent<;>simp[b]
  | cons p r=>rw[hx] at h2;simp at h2
theorem Md(m:Mark):WW ρ 3 uk kN m:=by
 simp only[kN,RR]
 unfold uk
 simp (disch:=first|omega|assumption|(constructor<;>first|assumption|omega)|simp only[LN];omega) only[↓S0,S3,S2,S1,↓fN]
 simp[fE,Bool.and_assoc]
def Jp:=And.intro @cn (And.intro @fN (@bP))
theorem Jq(c:Config)(x:Mark2)(hp:bx c=true):WW ρ 12 sl jq (c,x):=by
 simp only[jq,RR]
 unfold sl
 have hb:=dh hp
 simp (disch:=first|omega|assumption|(constructor<;>first|assumption|omega)|simp only[LN];omega) only[↓S0,S3,S2,S1,↓Jp]
 simp[mL,Bool.and_assoc]
theorem ym{c:Config}{asks p:Int}{x:Call}{r:List Call}:bM c asks p (x::r)=(decide (p<x.count)&&decide (x.count≤asks)&&rng x.topic 0 (c.topics-1)&&rng x.age 0 20&&bM c asks x.count r):=rfl
theorem Jr(c:Config)(n:Node)(hp:bx c=true)(hg:ag (gu (c,n)).2.1):WW ρ 16 sk gu (c,n):=by
 simp only[gu,RR] at hg ⊢
 unfold sk
 have hb:=dh hp
 simp only[ag,bV,aR] at hg
 simp (disch:=first|omega|assumption|(constructor<;>first|assumption|omega)|simp only[LN];omega) only[↓SB,S1,↓fN]
 refine aw.rule (α:=Nat×Int) (fun a=>[I a.2,I a.1]) (fun a=>a.1≤n.calls.length∧bM c n.asks a.2 (n.calls.drop a.1)=bM c n.asks 0 n.calls) (fun a=>n.calls.length-a.1) (0,0) rfl ⟨by simp,by simp⟩ (fun _=>rfl) ?_
 rintro ⟨i,p⟩ ⟨hl,hs⟩
 simp only[app] at *
 simp (disch:=first|omega|assumption|(constructor<;>first|assumption|omega)|simp only[LN];omega) only[↓SB,S1,↓fN]
 refine ⟨fun h=>?_,fun h=>?_⟩
 ·obtain ⟨x,hx⟩:=am h
  rw[az hx,ym] at hs
  simp (disch:=first|omega|assumption|(constructor<;>first|assumption|omega)|simp only[LN];omega) only[↓SB,S1,↓fN,ab hx]
  refine ⟨fun h1=>?_,fun h1=>⟨fun h2=>?_,fun h2=>⟨fun h3=>?_,fun h3=>⟨fun h4=>?_,fun h4=>⟨(i+1,x.count),by simp,⟨by omega,?_⟩,by simp;omega⟩⟩⟩⟩⟩
  ·rw[←hs];simp[show ¬p<x.count by omega]
  ·rw[←hs];simp[show ¬x.count≤n.asks by omega]
  ·rw[←hs,h3];simp
  ·rw[←hs,h4];simp
  ·rw[←hs,h3,h4];simp[show p<x.count by omega,show x.count≤n.asks by omega]
 ·rw[aq h] at hs
  rw[←hs]
  simp[bM];omega
end Go.Xt
end
section
set_option linter.unusedSimpArgs false
set_option linter.unusedVariables false
set_option maxRecDepth 100000
namespace Go.Xt
set_option linter.defProp false
theorem vX{c:Config}{self t:Int}{x:Topic}{r:List Topic}:bI c self t (x::r)=(aM c t self x&&bI c self (t+1) r):=rfl
theorem Me{c:Config}{t self:Int}(h0:0≤t)(h1:t<c.topics)(hs:rng self 0 (c.nodes-1)=true):jO c t self=true:=by
 simp only[jO,hs,Bool.and_true];simp[rng];omega
def cb:=And.intro @fN (And.intro @rM (And.intro @pO (And.intro @bP (And.intro @IJ (And.intro @LB (@IK))))))
theorem Js(c:Config)(self:Int)(n:Node)(hp:bx c=true∧rng self 0 (c.nodes-1)=true)(hg:ag (gv (c,self,n)).2.1):WW ρ 17 sm gv (c,self,n):=by
 simp only[gv,RR] at hg ⊢
 unfold sm
 generalize hE:nd c self n=q
 obtain ⟨hc,hself⟩:=hp
 have hb:=dh hc
 simp only[ag,bV,aR] at hg
 unfold nd at hE
 refine SUB.v1 (bb (!(cnt n.inc&&rng n.pubs 0 1073741824&&rng n.asks 0 40&&(bM c n.asks 0 n.calls&&decide (n.calls.length≤40))))) ?_ ?_
 ·simp (disch:=first|omega|assumption|(constructor<;>first|assumption|omega)|simp only[LN];omega) only[↓S0,S3,S2,S1,↓cb]
  simp[Bool.and_assoc]
 cases hA:(cnt n.inc&&rng n.pubs 0 1073741824&&rng n.asks 0 40&&(bM c n.asks 0 n.calls&&decide (n.calls.length≤40)))
 ·simp (disch:=first|omega|assumption|(constructor<;>first|assumption|omega)|simp only[LN];omega) only[↓SB,S1,↓cb]
  rw[←hE]
  simp only[←Bool.and_assoc] at hA
  rw[hA];simp
 simp only[←Bool.and_assoc] at hA
 rw[hA] at hE
 rw[Bool.not_true,bn]
 refine SUB.v1 (bb (!(decide ((n.peers.length:Int)=c.nodes)&&decide ((n.topics.length:Int)=c.topics)&&decide ((n.marks.length:Int)=c.nodes)&&decide (n.taken.length≤64)))) ?_ ?_
 ·simp (disch:=first|omega|assumption|(constructor<;>first|assumption|omega)|simp only[LN];omega) only[↓S0,S3,S2,S1,↓cb]
  by_cases h1:(n.peers.length:Int)=c.nodes<;>by_cases h2:(n.topics.length:Int)=c.topics<;>by_cases h3:(n.marks.length:Int)=c.nodes<;>by_cases h4:n.taken.length≤64<;>simp[h1,h2,h3,h4]<;>omega
 cases hB:(decide ((n.peers.length:Int)=c.nodes)&&decide ((n.topics.length:Int)=c.topics)&&decide ((n.marks.length:Int)=c.nodes)&&decide (n.taken.length≤64))
 ·simp (disch:=first|omega|assumption|(constructor<;>first|assumption|omega)|simp only[LN];omega) only[↓SB,S1,↓cb]
  rw[←hE]
  revert hB
  by_cases h1:(n.peers.length:Int)=c.nodes<;>by_cases h2:(n.topics.length:Int)=c.topics<;>by_cases h3:(n.marks.length:Int)=c.nodes<;>by_cases h4:n.taken.length≤64<;>simp[h1,h2,h3,h4]
 simp only[Bool.and_eq_true,decide_eq_true_eq] at hB
 obtain ⟨⟨⟨B1,B2⟩,B3⟩,B4⟩:=hB
 have e1:decide ((n.peers.length:Int)=c.nodes)=true:=by simp[B1]
 have e2:decide ((n.topics.length:Int)=c.topics)=true:=by simp[B2]
 have e3:decide ((n.marks.length:Int)=c.nodes)=true:=by simp[B3]
 have e4:decide (n.taken.length≤64)=true:=by simp[B4]
 rw[e1,e2,e3,e4] at hE
 simp only[Bool.true_and] at hE
 simp (disch:=first|omega|assumption|(constructor<;>first|assumption|omega)|simp only[LN];omega) only[↓SB,S1,↓cb]
 refine aw.rule (α:=Nat) (fun i=>[I i]) (fun i=>i≤n.topics.length∧bI c self i (n.topics.drop i)=bI c self 0 n.topics) (fun i=>n.topics.length-i) 0 rfl ⟨by omega,by simp⟩ (fun _=>rfl) ?_
 rintro i ⟨hl,hs⟩
 simp only[app]
 simp (disch:=first|omega|assumption|(constructor<;>first|assumption|omega)|simp only[LN];omega) only[↓SB,S1,↓cb]
 refine ⟨fun h=>?_,fun h=>?_⟩
 ·obtain ⟨x,hx⟩:=am h
  rw[az hx,vX] at hs
  have hpl:=Me (c:=c) (t:=i) (by omega) (by omega) hself
  simp (disch:=first|omega|assumption|(constructor<;>first|assumption|omega)|simp only[LN];omega) only[↓SB,S1,↓cb,ab hx,hc,hpl]
  cases ht:aM c i self x
  ·simp
   rw[←hE,←hs,ht];simp
  ·simp
   exact ⟨i+1,by simp,⟨by omega,by rw[←hs,ht];simp⟩,by omega⟩
 rw[aq h] at hs
 have hT:bI c self 0 n.topics=true:=by rw[←hs];rfl
 rw[hT] at hE
 simp only[Bool.true_and] at hE
 refine aw.rule (α:=Nat) (fun i=>[I i]) (fun i=>i≤n.marks.length∧(n.marks.drop i).all (fE)=n.marks.all (fE)) (fun i=>n.marks.length-i) 0 rfl ⟨by omega,by simp⟩ (fun _=>rfl) ?_
 rintro i ⟨hl_i,hs_i⟩
 simp only[app]
 simp (disch:=first|omega|assumption|(constructor<;>first|assumption|omega)|simp only[LN];omega) only[↓SB,S1,↓cb]
 refine ⟨fun hc_i=>?_,fun hc_i=>?_⟩
 ·obtain ⟨m,hm⟩:=am hc_i
  rw[az hm,List.all_cons] at hs_i
  simp (disch:=first|omega|assumption|(constructor<;>first|assumption|omega)|simp only[LN];omega) only[↓SB,S1,↓cb,ab hm]
  refine ⟨fun h3=>?_,fun h3=>⟨i+1,rfl,⟨by omega,by simpa[h3] using hs_i⟩,by omega⟩⟩
  rw[h3,Bool.false_and] at hs_i
  simp only[Int.natCast_nonneg,decide_true,Bool.not_true,bn]
  simp (disch:=first|omega|assumption|(constructor<;>first|assumption|omega)|simp only[LN];omega) only[↓SB,S1,↓cb]
  rw[←hE,←hs_i]
  simp
 rw[aq hc_i] at hs_i
 have hM:n.marks.all fE=true:=by rw[←hs_i];rfl
 rw[hM] at hE
 refine ⟨fun h5=>?_,fun h5=>?_⟩
 ·cases hp5:bB n.peers
  ·rw[hp5] at h5;simp at h5
  rw[hp5] at hE
  simp only[Bool.true_and] at hE
  clear hs_i
  simp only[show ¬(0:Int)≤ -1 by decide,not_false_eq_true,true_implies,false_implies,and_true]
  refine aw.rule (α:=Nat) (fun i=>[I i]) (fun i=>i≤n.taken.length∧(n.taken.drop i).all (mL c)=n.taken.all (mL c)) (fun i=>n.taken.length-i) 0 rfl ⟨by omega,by simp⟩ (fun _=>rfl) ?_
  rintro i ⟨hl_i,hs_i⟩
  simp only[app]
  simp (disch:=first|omega|assumption|(constructor<;>first|assumption|omega)|simp only[LN];omega) only[↓SB,S1,↓cb]
  refine ⟨fun hc_i=>?_,fun hc_i=>?_⟩
  ·obtain ⟨m,hm⟩:=am hc_i
   rw[az hm,List.all_cons] at hs_i
   simp (disch:=first|omega|assumption|(constructor<;>first|assumption|omega)|simp only[LN];omega) only[↓SB,S1,↓cb,ab hm]
   refine ⟨fun h3=>?_,fun h3=>⟨i+1,rfl,⟨by omega,by simpa[h3] using hs_i⟩,by omega⟩⟩
   rw[h3,Bool.false_and] at hs_i
   rw[←hE,←hs_i]
   simp
  ·rw[aq hc_i] at hs_i
   rw[←hE,←hs_i];simp
 ·cases hp5:bB n.peers
  ·rw[←hE,hp5];simp
  ·rw[hp5] at h5;simp at h5
def jA:=And.intro @nh (And.intro @fN (@IL))
theorem Jt(c:Config)(self:Int)(n:Node)(hg:ag (gw (c,self,n)).2.1):WW ρ 17 sn gw (c,self,n):=by
 simp only[gw,RR] at hg ⊢
 unfold sn ax
 cases hc:bx c
 ·simp (disch:=first|omega|assumption|(constructor<;>first|assumption|omega)|simp only[LN];omega) only[↓SB,S1,↓jA,hc]
  simp
 have hb:=dh hc
 simp (disch:=first|omega|assumption|(constructor<;>first|assumption|omega)|simp only[LN];omega) only[↓SB,S1,↓jA,hc]
 cases hs:rng self 0 (c.nodes-1)
 ·simp (disch:=first|omega|assumption|(constructor<;>first|assumption|omega)|simp only[LN];omega) only[↓SB,S1,↓jA,hs]
  simp
 ·simp (disch:=first|omega|assumption|(constructor<;>first|assumption|omega)|simp only[LN];omega) only[↓SB,S1,↓jA,hs]
  cases hu:n.up
  ·simp (disch:=first|omega|assumption|(constructor<;>first|assumption|omega)|simp only[LN];omega) only[↓SB,S1,↓jA]
   simp
  ·simp (disch:=first|omega|assumption|(constructor<;>first|assumption|omega)|simp only[LN];omega) only[↓SB,S1,↓jA]
   cases nd c self n<;>simp
end Go.Xt
end
section
set_option linter.unusedSimpArgs false
set_option linter.unusedVariables false
set_option maxRecDepth 100000
namespace Go.Xt
set_option linter.defProp false
def cH:=And.intro @ij (And.intro @wI (And.intro @EN (@ES)))
theorem Ju(c:Config)(self:Int)(n:Node)(hp:bx c=true∧rng self 0 (c.nodes-1)=true)(hg:ag (gx (c,self,n)).2.1):WW ρ 17 so gx (c,self,n):=by
 simp only[gx,RR] at hg ⊢
 unfold so
 generalize hE:nd c self n=q
 obtain ⟨hc,hself⟩:=hp
 have hb:=dh hc
 simp only[ag,bV,aR] at hg
 unfold nd at hE
 refine SUB.v1 (bb (!(cnt n.inc&&decide ((n.peers.length:Int)=c.nodes)&&bB n.peers&&decide ((n.topics.length:Int)=c.topics)&&decide (n.calls.length≤40)&&rng n.pubs 0 1073741824&&rng n.asks 0 40&&decide ((n.marks.length:Int)=c.nodes)&&decide (n.taken.length≤64)))) ?_ ?_
 ·simp (disch:=first|omega|assumption|(constructor<;>first|assumption|omega)|simp only[LN];omega) only[↓S0,S3,S2,S1,↓cH]
  by_cases h1:(n.peers.length:Int)=c.nodes<;>by_cases h2:(n.topics.length:Int)=c.topics<;>by_cases h3:(n.marks.length:Int)=c.nodes<;>by_cases h4:n.taken.length≤64<;>by_cases h5:n.calls.length≤40<;>cases bB n.peers<;>cases rng n.asks 0 40<;>cases rng n.pubs 0 1073741824<;>simp[h1,h2,h3,h4,h5,cnt]<;>omega
 cases hA:(cnt n.inc&&decide ((n.peers.length:Int)=c.nodes)&&bB n.peers&&decide ((n.topics.length:Int)=c.topics)&&decide (n.calls.length≤40)&&rng n.pubs 0 1073741824&&rng n.asks 0 40&&decide ((n.marks.length:Int)=c.nodes)&&decide (n.taken.length≤64))
 ·simp (disch:=first|omega|assumption|(constructor<;>first|assumption|omega)|simp only[LN];omega) only[↓SB,S1,↓cH]
  rw[←hE]
  revert hA
  by_cases h1:(n.peers.length:Int)=c.nodes<;>by_cases h2:(n.topics.length:Int)=c.topics<;>by_cases h3:(n.marks.length:Int)=c.nodes<;>by_cases h4:n.taken.length≤64<;>by_cases h5:n.calls.length≤40<;>cases bB n.peers<;>cases rng n.asks 0 40<;>cases rng n.pubs 0 1073741824<;>cases cnt n.inc<;>simp[h1,h2,h3,h4,h5]
 simp only[Bool.and_eq_true,decide_eq_true_eq] at hA
 obtain ⟨⟨⟨⟨⟨⟨⟨⟨A1,A2⟩,A3⟩,A4⟩,A5⟩,A6⟩,A7⟩,A8⟩,A9⟩:=hA
 have e1:decide ((n.peers.length:Int)=c.nodes)=true:=by simp[A2]
 have e2:decide ((n.topics.length:Int)=c.topics)=true:=by simp[A4]
 have e3:decide ((n.marks.length:Int)=c.nodes)=true:=by simp[A8]
 have e4:decide (n.taken.length≤64)=true:=by simp[A9]
 have e5:decide (n.calls.length≤40)=true:=by simp[A5]
 rw[A1,A3,A6,A7,e1,e2,e3,e4,e5] at hE
 simp only[Bool.true_and,Bool.and_true] at hE
 rw[Bool.not_true,bn]
 refine aw.rule (α:=Nat) (fun i=>[I i]) (fun i=>i≤n.topics.length∧bI c self i (n.topics.drop i)=bI c self 0 n.topics) (fun i=>n.topics.length-i) 0 rfl ⟨by omega,by simp⟩ (fun _=>rfl) ?_
 rintro i ⟨hl,hs⟩
 simp only[app]
 simp (disch:=first|omega|assumption|(constructor<;>first|assumption|omega)|simp only[LN];omega) only[↓SB,S1,↓cH]
 refine ⟨fun h=>?_,fun h=>?_⟩
 ·have h':(i:Int)<n.topics.length:=by omega
  obtain ⟨x,hx⟩:=am h'
  rw[az hx,vX] at hs
  have hpl:=Me (c:=c) (t:=i) (by omega) (by omega) hself
  simp (disch:=first|omega|assumption|(constructor<;>first|assumption|omega)|simp only[LN];omega) only[↓SB,S1,↓cH,ab hx]
  refine ⟨fun ht=>?_,fun ht=>⟨i+1,by simp,⟨by omega,by rw[←hs,ht];simp⟩,by omega⟩⟩
  rw[←hE,←hs,ht];simp
 rw[aq (by omega)] at hs
 have hT:bI c self 0 n.topics=true:=by rw[←hs];rfl
 rw[hT] at hE
 simp only[Bool.true_and,Bool.and_true] at hE
 refine aw.rule (α:=Nat) (fun i=>[I i]) (fun i=>i≤n.calls.length∧ ∃p,(i=0→p=0)∧(0<i→ ∃k,n.calls[i-1]? =some k∧p=k.count)∧0≤p∧bM c n.asks p (n.calls.drop i)=bM c n.asks 0 n.calls) (fun i=>n.calls.length-i) 0 rfl ⟨by omega,0,by simp⟩ (fun _=>rfl) ?_
 rintro i ⟨hl,p,hp0,hp1,hp2,hs⟩
 simp only[app]
 simp (disch:=first|omega|assumption|(constructor<;>first|assumption|omega)|simp only[LN];omega) only[↓SB,S1,↓cH]
 refine ⟨fun h=>?_,fun h=>?_⟩
 ·obtain ⟨x,hx⟩:=am h
  rw[az hx,ym] at hs
  simp (disch:=first|omega|assumption|(constructor<;>first|assumption|omega)|simp only[LN];omega) only[↓SB,S1,↓cH,ab hx]
  refine ⟨fun h1=>?_,fun h1=>⟨fun h2=>?_,fun h2=>?_⟩⟩
  ·rw[←hE,←hs]
   have:(decide (p<x.count)&&decide (x.count≤n.asks))=false:=by
    rw[Bool.eq_false_iff] at h1 ⊢
    simp only[rng,Bool.and_eq_true,decide_eq_true_eq,ne_eq] at h1 ⊢
    omega
   rw[this];simp
  ·have h1:=aZ h1
   obtain ⟨k,hk,rfl⟩:=hp1 (by omega)
   have e1:((i:Int)-1)=((i-1:Nat):Int):=by omega
   simp (disch:=first|omega|assumption|(constructor<;>first|assumption|omega)|simp only[LN];omega) only[↓SB,S1,↓cH,e1,ab hk]
   refine ⟨fun h8=>?_,fun h8=>⟨fun h9=>?_,fun h9=>⟨fun h10=>?_,fun h10=>⟨i+1,by simp,⟨by omega,x.count,by simp,fun _=>⟨x,by simpa using hx,rfl⟩,by omega,?_⟩,by omega⟩⟩⟩⟩
   ·rw[←hE,←hs];simp[show ¬k.count<x.count by omega]
   ·rw[←hE,←hs,h9];simp
   ·rw[←hE,←hs,h10];simp
   ·rw[←hs,h9,h10];simp[show k.count<x.count by omega,h1]
  ·have h1:=aZ h1
   have h0:i=0:=by omega
   rw[hp0 h0] at hs
   refine ⟨fun h9=>?_,fun h9=>⟨fun h10=>?_,fun h10=>⟨i+1,by simp,⟨by omega,x.count,by simp,fun _=>⟨x,by simpa using hx,rfl⟩,by omega,?_⟩,by omega⟩⟩⟩
   ·rw[←hE,←hs,h9];simp
   ·rw[←hE,←hs,h10];simp
   ·rw[←hs,h9,h10];simp[show 0<x.count by omega,h1]
 rw[aq h] at hs
 have hC:bM c n.asks 0 n.calls=true:=by rw[←hs];rfl
 rw[hC] at hE
 simp only[Bool.true_and,Bool.and_true] at hE
 refine aw.rule (α:=Nat) (fun i=>[I i]) (fun i=>i≤n.marks.length∧(n.marks.drop i).all (fE)=n.marks.all (fE)) (fun i=>n.marks.length-i) 0 rfl ⟨by omega,by simp⟩ (fun _=>rfl) ?_
 rintro i ⟨hl_i,hs_i⟩
 simp only[app]
 simp (disch:=first|omega|assumption|(constructor<;>first|assumption|omega)|simp only[LN];omega) only[↓SB,S1,↓cH]
 refine ⟨fun hc_i=>?_,fun hc_i=>?_⟩
 ·obtain ⟨m,hm⟩:=am hc_i
  rw[az hm,List.all_cons] at hs_i
  simp (disch:=first|omega|assumption|(constructor<;>first|assumption|omega)|simp only[LN];omega) only[↓SB,S1,↓cH,ab hm]
  have hm:fE m=(rng m.inc 0 1073741824&&rng m.pubs 0 1073741824&&rng m.met 0 2199023255551):=rfl
  refine ⟨fun h1=>?_,fun h1=>⟨fun h2=>?_,fun h2=>⟨fun h3=>?_,fun h3=>⟨i+1,rfl,⟨by omega,by rw[←hs_i,hm,h1,h2,h3];simp⟩,by omega⟩⟩⟩⟩
  ·rw[←hE,←hs_i,hm,h1];simp
  ·rw[←hE,←hs_i,hm,h2];simp
  ·rw[←hE,←hs_i,hm,h3];simp
 rw[aq hc_i] at hs_i
 have hM:n.marks.all fE=true:=by rw[←hs_i];rfl
 rw[hM] at hE
 simp only[Bool.true_and,Bool.and_true] at hE
 clear hs_i
 refine aw.rule (α:=Nat) (fun i=>[I i]) (fun i=>i≤n.taken.length∧(n.taken.drop i).all (mL c)=n.taken.all (mL c)) (fun i=>n.taken.length-i) 0 rfl ⟨by omega,by simp⟩ (fun _=>rfl) ?_
 rintro i ⟨hl_i,hs_i⟩
 simp only[app]
 simp (disch:=first|omega|assumption|(constructor<;>first|assumption|omega)|simp only[LN];omega) only[↓SB,S1,↓cH]
 refine ⟨fun hc_i=>?_,fun hc_i=>?_⟩
 ·obtain ⟨m,hm⟩:=am hc_i
  rw[az hm,List.all_cons] at hs_i
  simp (disch:=first|omega|assumption|(constructor<;>first|assumption|omega)|simp only[LN];omega) only[↓SB,S1,↓cH,ab hm]
  have hm:mL c m=(rng m.node 0 (c.nodes-1)&&rng m.topic 0 (c.topics-1)&&cnt m.inc&&cnt m.count&&val m.value):=rfl
  refine ⟨fun h1=>?_,fun h1=>⟨fun h2=>?_,fun h2=>⟨fun h3=>?_,fun h3=>⟨fun h4=>?_,fun h4=>⟨fun h5=>?_,fun h5=>⟨i+1,rfl,⟨by omega,by rw[←hs_i,hm,h1,h4,h5];simp[cnt,h2,h3]⟩,by omega⟩⟩⟩⟩⟩⟩
  ·rw[←hE,←hs_i,hm,h1];simp
  ·rw[←hE,←hs_i,hm];simp[cnt,h2]
  ·rw[←hE,←hs_i,hm];simp[cnt,h3]
  ·rw[←hE,←hs_i,hm,h4];simp
  ·rw[←hE,←hs_i,hm,h5];simp
 ·rw[aq hc_i] at hs_i
  rw[←hE,←hs_i];simp
end Go.Xt
end
section
set_option linter.unusedSimpArgs false
set_option linter.unusedVariables false
set_option maxRecDepth 100000
namespace Go.Xt
set_option linter.defProp false
theorem CN{α:Type}{a b:List α}(h: ¬(a.length:Int)=b.length): ¬a=b:=by rintro rfl;exact h rfl
theorem Fk(a:List Peer)(b:List Peer)(hg:ag (eY (a,b)).2.1):WW ρ 2 qm eY (a,b):=by
 simp only[eY,RR] at hg ⊢
 unfold qm
 simp only[ag,aR] at hg
 simp (disch:=first|omega|assumption|(constructor<;>first|assumption|omega)|simp only[LN];omega) only[↓SB,S1]
 refine ⟨fun h=>by simp[CN h],fun h=>?_⟩
 have hl:a.length=b.length:=by omega
 refine aw.rule (α:=Nat) (fun i=>[I i]) (fun i=>i≤a.length∧((a=b)=(a.drop i=b.drop i))) (fun i=>a.length-i) 0 rfl ⟨by omega,by simp⟩ (fun _=>rfl) ?_
 rintro i ⟨hl_i,hs_i⟩
 simp only[app]
 simp (disch:=first|omega|assumption|(constructor<;>first|assumption|omega)|simp only[LN];omega) only[↓SB,S1]
 refine ⟨fun hc_i=>?_,fun hc_i=>?_⟩
 ·obtain ⟨x,hx⟩:=am hc_i
  obtain ⟨y,hy⟩:=am (xs:=b) (i:=i) (by omega)
  rw[az hx,az hy,List.cons.injEq] at hs_i
  simp (disch:=first|omega|assumption|(constructor<;>first|assumption|omega)|simp only[LN];omega) only[↓SB,S1,ab hx,ab hy,Peer.deq]
  refine ⟨fun h3=>?_,fun h3=>⟨i+1,rfl,⟨by omega,by simpa[h3] using hs_i⟩,by omega⟩⟩
  have hn: ¬a=b:=fun e=>h3 (hs_i.mp e).1
  simp[hn]
 ·rw[aq hc_i,aq (by omega)] at hs_i
  simp[hs_i]
theorem Jv(a:List Kid)(b:List Kid)(hg:ag (gy (a,b)).2.1):WW ρ 2 sq gy (a,b):=by
 simp only[gy,RR] at hg ⊢
 unfold sq
 simp only[ag,aR] at hg
 simp (disch:=first|omega|assumption|(constructor<;>first|assumption|omega)|simp only[LN];omega) only[↓SB,S1]
 refine ⟨fun h=>by simp[CN h],fun h=>?_⟩
 have hl:a.length=b.length:=by omega
 refine aw.rule (α:=Nat) (fun i=>[I i]) (fun i=>i≤a.length∧((a=b)=(a.drop i=b.drop i))) (fun i=>a.length-i) 0 rfl ⟨by omega,by simp⟩ (fun _=>rfl) ?_
 rintro i ⟨hl_i,hs_i⟩
 simp only[app]
 simp (disch:=first|omega|assumption|(constructor<;>first|assumption|omega)|simp only[LN];omega) only[↓SB,S1]
 refine ⟨fun hc_i=>?_,fun hc_i=>?_⟩
 ·obtain ⟨x,hx⟩:=am hc_i
  obtain ⟨y,hy⟩:=am (xs:=b) (i:=i) (by omega)
  rw[az hx,az hy,List.cons.injEq] at hs_i
  simp (disch:=first|omega|assumption|(constructor<;>first|assumption|omega)|simp only[LN];omega) only[↓SB,S1,ab hx,ab hy,Kid.deq]
  refine ⟨fun h3=>?_,fun h3=>⟨i+1,rfl,⟨by omega,by simpa[h3] using hs_i⟩,by omega⟩⟩
  have hn: ¬a=b:=fun e=>h3 (hs_i.mp e).1
  simp[hn]
 ·rw[aq hc_i,aq (by omega)] at hs_i
  simp[hs_i]
theorem Fl(a:List Item)(b:List Item)(hg:ag (eZ (a,b)).2.1):WW ρ 2 qn eZ (a,b):=by
 simp only[eZ,RR] at hg ⊢
 unfold qn
 simp only[ag,aR] at hg
 simp (disch:=first|omega|assumption|(constructor<;>first|assumption|omega)|simp only[LN];omega) only[↓SB,S1]
 refine ⟨fun h=>by simp[CN h],fun h=>?_⟩
 have hl:a.length=b.length:=by omega
 refine aw.rule (α:=Nat) (fun i=>[I i]) (fun i=>i≤a.length∧((a=b)=(a.drop i=b.drop i))) (fun i=>a.length-i) 0 rfl ⟨by omega,by simp⟩ (fun _=>rfl) ?_
 rintro i ⟨hl_i,hs_i⟩
 simp only[app]
 simp (disch:=first|omega|assumption|(constructor<;>first|assumption|omega)|simp only[LN];omega) only[↓SB,S1]
 refine ⟨fun hc_i=>?_,fun hc_i=>?_⟩
 ·obtain ⟨x,hx⟩:=am hc_i
  obtain ⟨y,hy⟩:=am (xs:=b) (i:=i) (by omega)
  rw[az hx,az hy,List.cons.injEq] at hs_i
  simp (disch:=first|omega|assumption|(constructor<;>first|assumption|omega)|simp only[LN];omega) only[↓SB,S1,ab hx,ab hy,Item.deq]
  refine ⟨fun h3=>?_,fun h3=>⟨i+1,rfl,⟨by omega,by simpa[h3] using hs_i⟩,by omega⟩⟩
  have hn: ¬a=b:=fun e=>h3 (hs_i.mp e).1
  simp[hn]
 ·rw[aq hc_i,aq (by omega)] at hs_i
  simp[hs_i]
theorem CO(a:List Event)(b:List Event)(hg:ag (dP (a,b)).2.1):WW ρ 2 oJ dP (a,b):=by
 simp only[dP,RR] at hg ⊢
 unfold oJ
 simp only[ag,aR] at hg
 simp (disch:=first|omega|assumption|(constructor<;>first|assumption|omega)|simp only[LN];omega) only[↓SB,S1]
 refine ⟨fun h=>by simp[CN h],fun h=>?_⟩
 have hl:a.length=b.length:=by omega
 refine aw.rule (α:=Nat) (fun i=>[I i]) (fun i=>i≤a.length∧((a=b)=(a.drop i=b.drop i))) (fun i=>a.length-i) 0 rfl ⟨by omega,by simp⟩ (fun _=>rfl) ?_
 rintro i ⟨hl_i,hs_i⟩
 simp only[app]
 simp (disch:=first|omega|assumption|(constructor<;>first|assumption|omega)|simp only[LN];omega) only[↓SB,S1]
 refine ⟨fun hc_i=>?_,fun hc_i=>?_⟩
 ·obtain ⟨x,hx⟩:=am hc_i
  obtain ⟨y,hy⟩:=am (xs:=b) (i:=i) (by omega)
  rw[az hx,az hy,List.cons.injEq] at hs_i
  simp (disch:=first|omega|assumption|(constructor<;>first|assumption|omega)|simp only[LN];omega) only[↓SB,S1,ab hx,ab hy,Event.deq]
  refine ⟨fun h3=>?_,fun h3=>⟨i+1,rfl,⟨by omega,by simpa[h3] using hs_i⟩,by omega⟩⟩
  have hn: ¬a=b:=fun e=>h3 (hs_i.mp e).1
  simp[hn]
 ·rw[aq hc_i,aq (by omega)] at hs_i
  simp[hs_i]
theorem CP(a:Stream)(b:Stream)(hg:ag (dQ (a,b)).2.1):WW ρ 10 oK dQ (a,b):=by
 simp only[dQ,RR] at hg ⊢
 unfold oK
 simp (disch:=first|omega|assumption|(constructor<;>first|assumption|omega)|simp only[LN];omega) only[↓S0,S3,S2,S1,↓EU]
 simp[Stream.eq_iff,Bool.decide_and]
def Fm:=And.intro @xX (And.intro @IO (And.intro @ue (@Ct)))
theorem Fo(a:Topic)(b:Topic)(hg:ag (fa (a,b)).2.1):WW ρ 32 qo fa (a,b):=by
 simp only[fa,RR] at hg ⊢
 unfold qo
 generalize hE:decide (a=b)=q
 repeat' (first | apply And.intro | intro _ | simp (disch:=first|omega|assumption|(constructor<;>first|assumption|omega)|simp only[LN];omega) only[↓SB,S1,↓Fm])
 all_goals (rw[←hE];clear hE;simp_all[Topic.eq_iff])
theorem Fp{α:Type}{p:α→Bool}{l:List α}(h:l.any p=false){x:α}(hx:x∈l):p x=false:=by
 rw[List.any_eq_false] at h;simpa using h x hx
def de:=And.intro @vT (@ET)
theorem Jw(a:Node)(b:Node)(hg:ag (gz (a,b)).2.1):WW ρ 18 sr gz (a,b):=by
 simp only[gz,RR] at hg ⊢
 unfold sr
 simp only[ag,aR] at hg
 generalize hE:decide (a=b)=q
 refine SUB.v1 (bb (!((a.up == b.up)&&decide (a.inc=b.inc)&&decide (a.peers=b.peers)&&decide (a.topics.length=b.topics.length)&&decide (a.calls.length=b.calls.length)&&decide (a.pubs=b.pubs)&&decide (a.asks=b.asks)&&decide (a.marks.length=b.marks.length)&&decide (a.taken.length=b.taken.length)))) ?_ ?_
 ·repeat' (first | apply And.intro | intro _ | simp (disch:=first|omega|assumption|(constructor<;>first|assumption|omega)|simp only[LN];omega) only[↓SB,S1,↓de])
  all_goals (simp_all;try omega)
  all_goals (rw[Bool.eq_iff_iff];simp;omega)
 cases hA:((a.up == b.up)&&decide (a.inc=b.inc)&&decide (a.peers=b.peers)&&decide (a.topics.length=b.topics.length)&&decide (a.calls.length=b.calls.length)&&decide (a.pubs=b.pubs)&&decide (a.asks=b.asks)&&decide (a.marks.length=b.marks.length)&&decide (a.taken.length=b.taken.length))
 ·simp (disch:=first|omega|assumption|(constructor<;>first|assumption|omega)|simp only[LN];omega) only[↓SB,S1,↓de]
  have: ¬a=b:=by rintro rfl;simp at hA
  rw[←hE];simp[this]
 simp only[Bool.and_eq_true,decide_eq_true_eq,beq_iff_eq] at hA
 obtain ⟨⟨⟨⟨⟨⟨⟨⟨A1,A2⟩,A3⟩,A4⟩,A5⟩,A6⟩,A7⟩,A8⟩,A9⟩:=hA
 have hN:(a=b)=(a.topics=b.topics∧a.calls=b.calls∧a.marks=b.marks∧a.taken=b.taken):=by
  rw[Node.eq_iff];simp[A1,A2,A3,A6,A7]
 rw[Bool.not_true,bn]
 refine aw.rule (α:=Nat) (fun i=>[I i]) (fun i=>i≤a.topics.length∧((a.topics=b.topics)=(a.topics.drop i=b.topics.drop i))) (fun i=>a.topics.length-i) 0 rfl ⟨by omega,by simp⟩ (fun _=>rfl) ?_
 rintro i ⟨hl_i,hs_i⟩
 simp only[app]
 simp (disch:=first|omega|assumption|(constructor<;>first|assumption|omega)|simp only[LN];omega) only[↓SB,S1,↓de]
 refine ⟨fun hc_i=>?_,fun hc_i=>?_⟩
 ·obtain ⟨x,hx⟩:=am hc_i
  obtain ⟨y,hy⟩:=am (xs:=b.topics) (i:=i) (by omega)
  rw[az hx,az hy,List.cons.injEq] at hs_i
  simp (disch:=first|omega|assumption|(constructor<;>first|assumption|omega)|simp only[LN];omega) only[↓SB,S1,↓de,ab hx,ab hy]
  refine ⟨fun h3=>?_,fun h3=>⟨i+1,rfl,⟨by omega,by simpa[h3] using hs_i⟩,by omega⟩⟩
  have hn: ¬a.topics=b.topics:=fun e=>h3 (hs_i.mp e).1
  have: ¬a=b:=by rw[hN];exact fun h=>hn h.1
  rw[←hE];simp[this]
 rw[aq hc_i,aq (by omega)] at hs_i
 have E1:a.topics=b.topics:=by rw[hs_i]
 clear hs_i hl_i hc_i i
 refine aw.rule (α:=Nat) (fun i=>[I i]) (fun i=>i≤a.calls.length∧((a.calls=b.calls)=(a.calls.drop i=b.calls.drop i))) (fun i=>a.calls.length-i) 0 rfl ⟨by omega,by simp⟩ (fun _=>rfl) ?_
 rintro i ⟨hl_i,hs_i⟩
 simp only[app]
 simp (disch:=first|omega|assumption|(constructor<;>first|assumption|omega)|simp only[LN];omega) only[↓SB,S1,↓de]
 refine ⟨fun hc_i=>?_,fun hc_i=>?_⟩
 ·obtain ⟨x,hx⟩:=am hc_i
  obtain ⟨y,hy⟩:=am (xs:=b.calls) (i:=i) (by omega)
  rw[az hx,az hy,List.cons.injEq] at hs_i
  simp (disch:=first|omega|assumption|(constructor<;>first|assumption|omega)|simp only[LN];omega) only[↓SB,S1,↓de,ab hx,ab hy,Call.deq]
  refine ⟨fun h3=>?_,fun h3=>⟨i+1,rfl,⟨by omega,by simpa[h3] using hs_i⟩,by omega⟩⟩
  have hn: ¬a.calls=b.calls:=fun e=>h3 (hs_i.mp e).1
  have: ¬a=b:=by rw[hN];exact fun h=>hn h.2.1
  rw[←hE];simp[this]
 rw[aq hc_i,aq (by omega)] at hs_i
 have E2:a.calls=b.calls:=by rw[hs_i]
 clear hs_i hl_i hc_i i
 refine aw.rule (α:=Nat) (fun i=>[I i]) (fun i=>i≤a.marks.length∧((a.marks=b.marks)=(a.marks.drop i=b.marks.drop i))) (fun i=>a.marks.length-i) 0 rfl ⟨by omega,by simp⟩ (fun _=>rfl) ?_
 rintro i ⟨hl_i,hs_i⟩
 simp only[app]
 simp (disch:=first|omega|assumption|(constructor<;>first|assumption|omega)|simp only[LN];omega) only[↓SB,S1,↓de]
 refine ⟨fun hc_i=>?_,fun hc_i=>?_⟩
 ·obtain ⟨x,hx⟩:=am hc_i
  obtain ⟨y,hy⟩:=am (xs:=b.marks) (i:=i) (by omega)
  rw[az hx,az hy,List.cons.injEq] at hs_i
  simp (disch:=first|omega|assumption|(constructor<;>first|assumption|omega)|simp only[LN];omega) only[↓SB,S1,↓de,ab hx,ab hy,Mark.deq]
  refine ⟨fun h3=>?_,fun h3=>⟨i+1,rfl,⟨by omega,by simpa[h3] using hs_i⟩,by omega⟩⟩
  have hn: ¬a.marks=b.marks:=fun e=>h3 (hs_i.mp e).1
  have: ¬a=b:=by rw[hN];exact fun h=>hn h.2.2.1
  rw[←hE];simp[this]
 rw[aq hc_i,aq (by omega)] at hs_i
 have E3:a.marks=b.marks:=by rw[hs_i]
 clear hs_i hl_i hc_i i
 refine aw.rule (α:=Nat) (fun i=>[I i]) (fun i=>i≤a.taken.length∧((a.taken=b.taken)=(a.taken.drop i=b.taken.drop i))) (fun i=>a.taken.length-i) 0 rfl ⟨by omega,by simp⟩ (fun _=>rfl) ?_
 rintro i ⟨hl_i,hs_i⟩
 simp only[app]
 simp (disch:=first|omega|assumption|(constructor<;>first|assumption|omega)|simp only[LN];omega) only[↓SB,S1,↓de]
 refine ⟨fun hc_i=>?_,fun hc_i=>?_⟩
 ·obtain ⟨x,hx⟩:=am hc_i
  obtain ⟨y,hy⟩:=am (xs:=b.taken) (i:=i) (by omega)
  rw[az hx,az hy,List.cons.injEq] at hs_i
  simp (disch:=first|omega|assumption|(constructor<;>first|assumption|omega)|simp only[LN];omega) only[↓SB,S1,↓de,ab hx,ab hy,Mark2.deq]
  refine ⟨fun h3=>?_,fun h3=>⟨i+1,rfl,⟨by omega,by simpa[h3] using hs_i⟩,by omega⟩⟩
  have hn: ¬a.taken=b.taken:=fun e=>h3 (hs_i.mp e).1
  have: ¬a=b:=by rw[hN];exact fun h=>hn h.2.2.2
  rw[←hE];simp[this]
 ·rw[aq hc_i,aq (by omega)] at hs_i
  have E4:a.taken=b.taken:=by rw[hs_i]
  have:a=b:=by rw[hN];exact ⟨E1,E2,E3,E4⟩
  rw[←hE];simp[this]
end Go.Xt
end
section
set_option linter.unusedSimpArgs false
set_option linter.unusedVariables false
set_option maxRecDepth 100000
namespace Go.Xt
set_option linter.defProp false
instance:FlatRow Kid:=⟨fun a q hq=>by simp[Row.row] at hq;rcases hq with rfl | rfl | rfl<;>rfl⟩
instance:FlatRow Item:=⟨fun a q hq=>by simp[Row.row] at hq;rcases hq with rfl | rfl<;>rfl⟩
instance:FlatRow Event:=⟨fun a q hq=>by simp[Row.row] at hq;rcases hq with rfl | rfl | rfl | rfl | rfl | rfl<;>rfl⟩
instance:FlatRow Peer:=⟨fun a q hq=>by simp[Row.row] at hq;rcases hq with rfl | rfl<;>rfl⟩
instance:FlatRow By:=⟨fun a q hq=>by simp[Row.row] at hq;subst hq;rfl⟩
theorem yn{α:Type}{xs:List α}{i:Nat}{x:α}(h:xs[i]? =some x):xs.take (i+1)=xs.take i++[x]:=by rw[List.take_add_one,h];rfl
theorem Fq(s:Stream)(q:List Event)(hg:ag (fc (s,q)).2.1):WW ρ 6 qp fc (s,q):=by
 simp only[fc,RR] at hg ⊢
 unfold qp xW
 simp (disch:=first|omega|assumption|(constructor<;>first|assumption|omega)|simp only[LN];omega) only[↓S0,S3,S2,S1]
 simp only[List.cons.injEq,PV.bool.injEq,and_true]
 rw[Bool.eq_iff_iff];simp;omega
theorem Fs(x:Topic)(hg:ag (fe x).2.1):WW ρ 16 qq fe x:=by
 simp only[fe,RR] at hg ⊢
 unfold qq cv
 repeat' (first | apply And.intro | intro _ | simp (disch:=first|omega|assumption|(constructor<;>first|assumption|omega)|simp only[LN];omega) only[↓SB,S1,↓EV])
 all_goals (simp_all;try omega)
theorem Ft(n:Node)(hg:ag (fg n).2.1):WW ρ 9 qr fg n:=by
 simp only[fg,RR] at hg ⊢
 unfold qr
 simp only[ag,aR] at hg
 generalize hE:aA n=q
 unfold aA at hE
 refine SUB.v1 (bb (decide (n.peers.length>12)||decide (n.topics.length>8)||decide (n.calls.length>60)||decide (n.marks.length>12)||decide (n.taken.length>80))) ?_ ?_
 ·repeat' (first | apply And.intro | intro _ | simp (disch:=first|omega|assumption|(constructor<;>first|assumption|omega)|simp only[LN];omega) only[↓SB,S1,↓jU])
  all_goals (simp_all;try omega)
  all_goals (rw[Bool.eq_iff_iff];simp;omega)
 cases hA:(decide (n.peers.length>12)||decide (n.topics.length>8)||decide (n.calls.length>60)||decide (n.marks.length>12)||decide (n.taken.length>80))
 ·rw[hA] at hE
  simp only[Bool.false_or] at hE
  simp (disch:=first|omega|assumption|(constructor<;>first|assumption|omega)|simp only[LN];omega) only[↓SB,S1,↓jU]
  refine aw.rule (α:=Nat) (fun i=>[I i]) (fun i=>i≤n.topics.length∧(n.topics.drop i).any (cv)=n.topics.any (cv)) (fun i=>n.topics.length-i) 0 rfl ⟨by omega,by simp⟩ (fun _=>rfl) ?_
  rintro i ⟨hl_i,hs_i⟩
  simp only[app]
  simp (disch:=first|omega|assumption|(constructor<;>first|assumption|omega)|simp only[LN];omega) only[↓SB,S1,↓jU]
  refine ⟨fun hc_i=>?_,fun hc_i=>?_⟩
  ·obtain ⟨x,hx⟩:=am hc_i
   rw[az hx,List.any_cons] at hs_i
   simp (disch:=first|omega|assumption|(constructor<;>first|assumption|omega)|simp only[LN];omega) only[↓SB,S1,↓jU,ab hx]
   refine ⟨fun h3=>?_,fun h3=>⟨i+1,rfl,⟨by omega,by simpa[h3] using hs_i⟩,by omega⟩⟩
   rw[←hE,←hs_i,h3];simp
  ·rw[aq hc_i] at hs_i
   rw[←hE,←hs_i];simp
 ·rw[hA] at hE
  simp (disch:=first|omega|assumption|(constructor<;>first|assumption|omega)|simp only[LN];omega) only[↓SB,S1,↓jU]
  rw[←hE];simp
theorem zu(l:List Kid)(hp:l.length≤1000000):WW ρ 1 mr cT l:=by
 simp only[cT,RR]
 unfold mr
 simp (disch:=first|omega|assumption|(constructor<;>first|assumption|omega)|simp only[LN];omega) only[↓SB,S1]
theorem yo(l:List Item)(hp:l.length≤1000000):WW ρ 1 ly cz l:=by
 simp only[cz,RR]
 unfold ly
 simp (disch:=first|omega|assumption|(constructor<;>first|assumption|omega)|simp only[LN];omega) only[↓SB,S1]
theorem wW(l:List Event)(hp:l.length≤1000000):WW ρ 1 kv cf l:=by
 simp only[cf,RR]
 unfold kv
 simp (disch:=first|omega|assumption|(constructor<;>first|assumption|omega)|simp only[LN];omega) only[↓SB,S1]
theorem yp(l:List Peer)(hp:l.length≤1000000):WW ρ 1 lz cA l:=by
 simp only[cA,RR]
 unfold lz
 simp (disch:=first|omega|assumption|(constructor<;>first|assumption|omega)|simp only[LN];omega) only[↓SB,S1]
theorem wX(s:Stream)(hp:s.kept.length≤1000000∧s.ahead.length≤1000000):WW ρ 5 kw cV s:=by
 simp only[cV,RR]
 unfold kw
 simp (disch:=first|omega|assumption|(constructor<;>first|assumption|omega)|simp only[LN];omega) only[↓SB,S1,↓yc]
theorem CQ{x:Topic}(h:cv x=false):x.path.length≤20∧x.kids.length≤20∧x.stream.kept.length≤30∧x.stream.ahead.length≤30∧x.queue.length≤50:=by
 simp[cv,xW] at h;omega
theorem oQ{n:Node}(h:aA n=false):n.peers.length≤12∧n.topics.length≤8∧n.calls.length≤60∧n.marks.length≤12∧n.taken.length≤80∧n.topics.any cv=false:=by
 simp only[aA,Bool.or_eq_false_iff,decide_eq_false_iff_not] at h
 obtain ⟨⟨⟨⟨⟨a,b⟩,d⟩,e⟩,f⟩,g⟩:=h
 exact ⟨by omega,by omega,by omega,by omega,by omega,g⟩
def yq:=And.intro @jw (And.intro @zl (And.intro @oz (@bc)))
theorem yr(x:Topic)(hp:cv x=false):WW ρ 16 lA dm x:=by
 simp only[dm,RR]
 unfold lA
 have hb:=CQ hp
 simp (disch:=first|omega|assumption|(constructor<;>first|assumption|omega)|simp only[LN];omega) only[↓SB,S1,↓yq]
def mw:=And.intro @pq (@iD)
theorem zw(n:Node)(hp:aA n=false)(hg:ag (cW n).2.1):WW ρ 9 mu cW n:=by
 simp only[cW,RR] at hg ⊢
 unfold mu
 simp only[ag,aR] at hg
 have hb:=oQ hp
 simp (disch:=first|omega|assumption|(constructor<;>first|assumption|omega)|simp only[LN];omega) only[↓SB,S1,↓mw]
 refine aw.rule (α:=Nat) (fun i=>[I i,L (n.topics.take i)]) (fun i=>i≤n.topics.length) (fun i=>n.topics.length-i) 0 rfl (by omega) (fun _=>rfl) ?_
 intro i hl
 simp only[app]
 simp (disch:=first|omega|assumption|(constructor<;>first|assumption|omega)|simp only[LN];omega) only[↓SB,S1,↓mw]
 refine ⟨fun hc=>?_,fun hc=>?_⟩
 ·obtain ⟨x,hx⟩:=am hc
  have hx9:=Fp hb.2.2.2.2.2 (List.mem_of_getElem? hx)
  have hlt:(n.topics.take i).length=i:=by simp;omega
  simp (disch:=first|omega|assumption|(constructor<;>first|assumption|omega)|simp only[LN];omega) only[↓SB,S1,↓mw,ab hx]
  exact ⟨i+1,by simp[yn hx],by omega,by omega⟩
 ·rw[List.take_of_length_le (by omega)]
end Go.Xt
end
section
set_option linter.unusedSimpArgs false
set_option linter.unusedVariables false
set_option maxRecDepth 100000
namespace Go.Xt
theorem zx{α:Type}{xs:List α}{i:Nat}{x:α}(h:xs[i]? =some x):xs.take (i+1)=xs.take i++[x]:=by rw[List.take_add_one,h];rfl
end Go.Xt
end
section
set_option linter.unusedSimpArgs false
set_option linter.unusedVariables false
set_option maxRecDepth 100000
namespace Go.Xt
theorem pb(l:List Int)(n:Int)(hg:ag (bm (l,n)).2.1):WW ρ 2 eh bm (l,n):=by
 simp only[bm,RR] at hg ⊢
 unfold eh
 simp only[ag,aR,bV] at hg
 simp (disch:=first|omega|assumption|(constructor<;>first|assumption|omega)|simp only[LN];omega) only[↓SB,S1]
 refine aw.rule (α:=Nat) (fun i=>[I i]) (fun i=>i≤l.length∧(l.drop i).contains n=l.contains n) (fun i=>l.length-i) 0 rfl ⟨by omega,by simp⟩ (fun _=>rfl) ?_
 rintro i ⟨hl,hs⟩
 simp only[app]
 simp (disch:=first|omega|assumption|(constructor<;>first|assumption|omega)|simp only[LN];omega) only[↓SB,S1]
 refine ⟨fun hc=>?_,fun hc=>?_⟩
 ·obtain ⟨x,hx⟩:=am hc
  rw[az hx,List.contains_cons] at hs
  simp (disch:=first|omega|assumption|(constructor<;>first|assumption|omega)|simp only[LN];omega) only[↓SB,S1,ab hx]
  refine ⟨fun h3=>?_,fun h3=>⟨i+1,rfl,⟨by omega,?_⟩,by omega⟩⟩
  ·rw[←hs];simp[h3]
  ·rw[←hs];simp[h3]
 ·rw[aq hc] at hs
  rw[←hs];simp
theorem Jx{m:Int}: ∀(l:List Item) (p:Int),iB m p l=true→(l.length:Int)≤max 0 (m-1-p)
 | [],p,_=>by simp;omega
 | x::r,p,h=>by
  simp only[iB,Bool.and_eq_true,decide_eq_true_eq] at h
  have:=Jx r x.seq h.2
  simp only[List.length_cons]
  omega
theorem Oj{c:Config}{t self:Int}{x:Topic}(hc:bx c=true)(h:aM c t self x=true):Re c x=false:=by
 have hb:=dh hc
 simp only[aM,Bool.and_eq_true,dK,ko,bh,jN,Bool.or_eq_true,nI,fX,mJ,decide_eq_true_eq] at h
 obtain ⟨⟨_,hk⟩,hs,hq⟩:=h
 have h1: ¬(x.kids.length:Int)>c.kids:=by have:=hk.1.2;omega
 have h2: ¬(x.queue.length:Int)>c.queue:=by have:=hq.1.1.2;omega
 have h3: ¬(x.stream.kept.length:Int)>c.keep:=by
  rcases hs with hs | hs
  ·rw[hs.1.2];simp;omega
  ·have:=hs.1.2.1.1.2;omega
 have h4: ¬(x.stream.ahead.length:Int)>c.window:=by
  rcases hs with hs | hs
  ·rw[hs.2];simp;omega
  ·have:=Jx _ _ hs.2.2;omega
 simp[Re,h1,h2,h3,h4]
end Go.Xt
end
section
set_option linter.unusedSimpArgs false
set_option linter.unusedVariables false
set_option maxRecDepth 100000
namespace Go.Xt
theorem Jy  :WW ρ 0 ss lr ():=by
 simp only[lr,RR]
 unfold ss
 rfl
end Go.Xt
end
section
set_option linter.unusedSimpArgs false
set_option linter.unusedVariables false
set_option maxRecDepth 100000
namespace Go.Xt
set_option linter.defProp false
theorem Pl{t a b:Int}(h:fD t a b=true):a≠b:=by
 rintro rfl;have:=(jc h).2.2.2;omega
theorem Qg{α:Type}{l:List α}{i:Nat}{x:α}(h:l[i]? =some x):l.take i++[x]=l.take (i+1):=by
 rw[List.take_add_one,h];rfl
theorem Pm{v:Int}:isK v=true↔0≤v∧v<4611686018427387904:=by simp[isK]
theorem Ue(n:Int):isK (nn n)=true:=Pm.2 (rd n)
theorem Uf{k n:Int}(h1:0≤k)(h2:k<4611686018427387904)(h3:0≤n)(h4:n<4611686018427387904):0≤far k n∧far k n<4611686018427387904:=by
 unfold far;split<;>omega
theorem RB(k:Int):WW ρ 1 CA qZ k:=by
 simp only[qZ,RR]
 unfold CA
 simp (disch:=first|omega|assumption|(constructor<;>first|assumption|omega)|simp only[LN];omega) only[↓SB,S1]
 refine ⟨fun h=>?_,fun h=>?_⟩ <;>simp[isK,h]
theorem Jz: ∀n:Fin 62,(1:Int)≤2 ^ n.val∧(2:Int) ^ n.val<4611686018427387904:=by decide +kernel
theorem zy{b:Int}{k:PV→Prop}(h0:0≤b)(h1:b≤61):OP (.bin .shl) [I 1,I b] k=k (I (2 ^ b.toNat)):=aL (by
 have h:(1:Int)≤2 ^ b.toNat∧(2:Int) ^ b.toNat<4611686018427387904:=Jz ⟨b.toNat,by omega⟩
 have h2:min b.toNat IntKind.i64.bits=b.toNat:=Nat.min_eq_left (by simp only[IntKind.bits];omega)
 have h3: ¬b<0:=by omega
 simp only[ev,lN,h2,h3,if_false,Int.one_mul,Option.some.injEq,PV.int.injEq,true_and]
 exact wr (by omega) (by omega))
def CR:=And.intro @vp (@Rh)
theorem Ok(k:Int)(bits:Int):WW ρ 2 wL mb (k,bits):=by
 simp only[mb,RR]
 unfold wL
 simp (disch:=first|omega|assumption|(constructor<;>first|assumption|omega)|simp only[LN];omega) only[↓SB,S1,↓CR]
 refine ⟨fun h=>by simp[h],fun h=>⟨fun h2=>?_,fun h2=>⟨fun h3=>?_,fun h3=>?_⟩⟩⟩
 ·have: ¬0≤bits:=by omega
  simp[h,this]
 ·have: ¬bits≤61:=by omega
  simp[h,this]
 ·have a:=Pm.1 h
  have b:(1:Int)≤2 ^ bits.toNat∧(2:Int) ^ bits.toNat<4611686018427387904:=Jz ⟨bits.toNat,by omega⟩
  rw[zy (by omega) (by omega)]
  simp (disch:=first|omega|assumption|(constructor<;>first|assumption|omega)|simp only[LN];omega) only[↓SB,S1,↓CR]
  have c:bits≤61:=by omega
  have d:0≤bits:=by omega
  simp[h,c,d]
def nQ:=And.intro @dC (And.intro @rJ (@wH))
theorem JA(t:Int)(l:List Int)(hg:ag (gd (t,l)).2.1):WW ρ 2 rY gd (t,l):=by
 simp only[gd,RR] at hg ⊢
 unfold rY Ac
 simp only[ag,aR] at hg
 simp (disch:=first|omega|assumption|(constructor<;>first|assumption|omega)|simp only[LN];omega) only[↓SB,S1,↓nQ]
 rcases Bool.eq_false_or_eq_true (isT t) with h | h
 case inr=>simp[h]
 simp only[h,if_true,Bool.true_eq_false,forall_const,if_false,Int.reduceEq,not_true_eq_false,false_implies,not_false_eq_true,true_and]
 refine ⟨fun h2=>by simp[h2],fun h2=>⟨fun h3=>?_,fun h3=>?_⟩⟩
 ·have:l=[]:=List.eq_nil_of_length_eq_zero (by omega)
  subst this;simp
 ·cases l with
  | nil=>simp at h3
  | cons y l0 =>
   simp only[h2,if_true]
   rw[QS (by omega) (by simp)]
   simp (disch:=first|omega|assumption|(constructor<;>first|assumption|omega)|simp only[LN];omega) only[↓SB,S1,↓nQ]
   generalize hl:y::l0=l at *
   refine aw.rule (α:=Nat×Int) (fun a=>[I a.2,I a.1]) (fun a=>a.1≤l.length∧fw t a.2 (l.drop a.1)=fw t y l) (fun a=>l.length-a.1) (0,y) rfl ⟨by simp,by simp⟩ (fun _=>rfl) ?_
   rintro ⟨i,b⟩ ⟨h4,h5⟩
   simp only[app] at *
   simp (disch:=first|omega|assumption|(constructor<;>first|assumption|omega)|simp only[LN];omega) only[↓SB,S1,↓nQ]
   refine ⟨fun h6=>?_,fun h6=>?_⟩
   ·obtain ⟨x,hx⟩:=am h6
    rw[az hx,fw] at h5
    simp (disch:=first|omega|assumption|(constructor<;>first|assumption|omega)|simp only[LN];omega) only[↓SB,S1,↓nQ,ab hx]
    refine ⟨fun h7=>⟨(i+1,x),by simp,⟨by simp;omega,by simpa[h7] using h5⟩,by simp;omega⟩,fun h7=>⟨(i+1,b),by simp,⟨by simp;omega,by simpa[h7] using h5⟩,by simp;omega⟩⟩
   ·rw[aq h6] at h5
    simp[←h5,fw]
theorem wY{xs:List Int}{i:Nat}{x d:Int}(h:xs[i]? =some x):(xs.take (i+1)).getLastD d=x:=by
 rw[←Qg h,List.getLastD_concat]
def mN:=And.intro @et (@bT)
theorem Fu(live:List Int)(self:Int)(hg:ag (eK (live,self)).2.1):WW ρ 2 pS eK (live,self):=by
 simp only[eK,RR] at hg ⊢
 unfold pS AJ
 simp only[ag,aR] at hg
 simp (disch:=first|omega|assumption|(constructor<;>first|assumption|omega)|simp only[LN];omega) only[↓SB,S1,↓mN]
 refine aw.rule (α:=Nat) (fun i=>[I i]) (fun i=>i≤live.length∧oe (((live.take i).getLastD (-1))) (live.drop i)=oe (-1) live) (fun i=>live.length-i) 0 rfl ⟨by simp,by simp⟩ (fun _=>rfl) ?_
 rintro i ⟨h4,h5⟩
 simp only[app] at *
 simp (disch:=first|omega|assumption|(constructor<;>first|assumption|omega)|simp only[LN];omega) only[↓SB,S1,↓mN]
 refine ⟨fun h6=>?_,fun h6=>?_⟩
 ·obtain ⟨x,hx⟩:=am h6
  rw[az hx,oe] at h5
  simp (disch:=first|omega|assumption|(constructor<;>first|assumption|omega)|simp only[LN];omega) only[↓SB,S1,↓mN,ab hx]
  refine ⟨fun h7=>?_,fun h7=>⟨fun h8=>?_,fun h8=>?_⟩⟩
  ·rw[←h5];simp[h7]
  ·obtain ⟨j,rfl⟩: ∃j,i=j+1:=⟨i-1,by omega⟩
   have hj:(((j+1:Nat):Int)-1)=(j:Nat):=by omega
   obtain ⟨y,hy⟩:=am (xs:=live) (i:=j) (by omega)
   rw[wY hy] at h5
   rw[hj]
   simp (disch:=first|omega|assumption|(constructor<;>first|assumption|omega)|simp only[LN];omega) only[↓SB,S1,↓mN,ab hx,ab hy]
   refine ⟨fun h9=>?_,fun h9=>⟨j+2,by simp;omega,⟨by omega,?_⟩,by omega⟩⟩
   ·have: ¬y<x:=by omega
    rw[←h5];simp[this]
   ·rw[wY hx,←h5]
    have:y<x:=by omega
    simp[h7,this]
  ·have:i=0:=by omega
   subst this
   refine ⟨1,by simp,⟨by omega,?_⟩,by omega⟩
   rw[wY hx,←h5]
   have:=dr.1 h7
   have:(-1:Int)<x:=by omega
   simp[h7,this]
 ·rw[aq h6] at h5
  simp only[oe] at h5
  rw[←h5]
  refine ⟨fun h=>by rw[h];simp,fun h=>by rw[h];simp⟩
def qG:=And.intro @pp (@vp)
theorem Fv(live:List Int)(k:Int)(hp:live.all isN=true∧0≤k∧k<4611686018427387904)(hg:ag (eM (live,k)).2.1):WW ρ 2 pT eM (live,k):=by
 simp only[eM,RR] at hg ⊢
 unfold pT pH
 simp only[ag,aR] at hg
 obtain ⟨p1,p2,p3⟩:=hp
 rw[List.all_eq_true] at p1
 simp (disch:=first|omega|assumption|(constructor<;>first|assumption|omega)|simp only[LN];omega) only[↓SB,S1,↓qG]
 refine aw.rule (α:=Nat×Int×Int) (fun a=>[I a.2.1,I a.2.2,I a.1]) (fun a=>a.1≤live.length∧ey k a.2.1 a.2.2 (live.drop a.1)=ey k (-1) 0 live) (fun a=>live.length-a.1) (0,-1,0) rfl ⟨by simp,by simp⟩ (fun _=>rfl) ?_
 rintro ⟨i,b,d⟩ ⟨h4,h5⟩
 simp only[app] at *
 simp (disch:=first|omega|assumption|(constructor<;>first|assumption|omega)|simp only[LN];omega) only[↓SB,S1,↓qG]
 refine ⟨fun h6=>?_,fun h6=>?_⟩
 ·obtain ⟨x,hx⟩:=am h6
  rw[az hx,ey] at h5
  have hN:=p1 x (List.mem_of_getElem? hx)
  have hb:=rd x
  simp (disch:=first|omega|assumption|(constructor<;>first|assumption|omega)|simp only[LN];omega) only[↓SB,S1,↓qG,ab hx,hN,if_true]
  refine ⟨fun h7=>⟨(i+1,x,far k (nn x)),by simp,⟨by simp;omega,by simpa[h7] using h5⟩,by simp;omega⟩,fun h7=>⟨fun h8=>⟨(i+1,x,far k (nn x)),by simp,⟨by simp;omega,by simpa[h8] using h5⟩,by simp;omega⟩,fun h8=>⟨(i+1,b,d),by simp,⟨by simp;omega,by simpa[h7,h8] using h5⟩,by simp;omega⟩⟩⟩
 ·rw[aq h6,ey] at h5
  simp[←h5]
def qH:=And.intro @pp (@vp)
theorem Fw(live:List Int)(self:Int)(hp:live.all isN=true∧isN self=true)(hg:ag (eN (live,self)).2.1):WW ρ 2 pU eN (live,self):=by
 simp only[eN,RR] at hg ⊢
 unfold pU kn
 simp only[ag,aR] at hg
 obtain ⟨p1,p2⟩:=hp
 rw[List.all_eq_true] at p1
 simp (disch:=first|omega|assumption|(constructor<;>first|assumption|omega)|simp only[LN];omega) only[↓SB,S1,↓qH]
 refine aw.rule (α:=Nat×Int×Int) (fun a=>[I a.2.1,I a.2.2,I a.1]) (fun a=>a.1≤live.length∧dZ self a.2.1 a.2.2 (live.drop a.1)=dZ self (-1) 0 live) (fun a=>live.length-a.1) (0,-1,0) rfl ⟨by simp,by simp⟩ (fun _=>rfl) ?_
 rintro ⟨i,b,d⟩ ⟨h4,h5⟩
 simp only[app] at *
 simp (disch:=first|omega|assumption|(constructor<;>first|assumption|omega)|simp only[LN];omega) only[↓SB,S1,↓qH]
 refine ⟨fun h6=>?_,fun h6=>?_⟩
 ·obtain ⟨x,hx⟩:=am h6
  rw[az hx,dZ] at h5
  have hN:=p1 x (List.mem_of_getElem? hx)
  have hb:=rd x
  have hb2:=rd self
  simp (disch:=first|omega|assumption|(constructor<;>first|assumption|omega)|simp only[LN];omega) only[↓SB,S1,↓qH,ab hx,hN,p2,if_true]
  refine ⟨fun h7=>⟨fun h8=>⟨(i+1,x,far (nn x) (nn self)),by simp,⟨by simp;omega,by simpa[h7,h8] using h5⟩,by simp;omega⟩,fun h8=>⟨fun h9=>⟨(i+1,x,far (nn x) (nn self)),by simp,⟨by simp;omega,by simpa[h7,h8,h9] using h5⟩,by simp;omega⟩,fun h9=>⟨(i+1,b,d),by simp,⟨by simp;omega,by simpa[h7,h8,h9] using h5⟩,by simp;omega⟩⟩⟩,fun h7=>⟨(i+1,b,d),by simp,⟨by simp;omega,by simpa[h7] using h5⟩,by simp;omega⟩⟩
 ·rw[aq h6,dZ] at h5
  simp[←h5]
theorem CT: ∀ {l:List Int} {p:Int},oe p l=true→l.all isN=true
 | [],_,_=>rfl
 | x::r,p,h=>by
  simp only[oe,Bool.and_eq_true] at h
  rw[List.all_cons,h.1.1,CT h.2];rfl
theorem vq{live:List Int}{self:Int}(h:AJ live self=0):(live.all isN=true∧isN self=true)∧(live.all isN=true∧isN self=true∧live≠[])∧oe (-1) live=true∧live.contains self=true:=by
 unfold AJ at h
 split at h
 ·rename_i h1
  rw[Bool.and_eq_true] at h1
  have a:=CT h1.1
  have b:isN self=true:=by
   rw[List.all_eq_true] at a;exact a self (by simpa using h1.2)
  exact ⟨⟨a,b⟩,⟨a,b,by rintro rfl;simp at h1⟩,h1.1,h1.2⟩
 ·omega
def Fx:=And.intro @rJ (@EH)
theorem Fy(t:Int)(live:List Int)(self:Int)(hg:ag (eO (t,live,self)).2.1):WW ρ 3 pV eO (t,live,self):=by
 simp only[eO,RR] at hg ⊢
 unfold pV u6
 simp (disch:=first|omega|assumption|(constructor<;>first|assumption|omega)|simp only[LN];omega) only[↓SB,S1,↓Fx]
 refine ⟨fun h=>by simp[h],fun h=>by simp[h]⟩
end Go.Xt
end
section
set_option linter.unusedSimpArgs false
set_option linter.unusedVariables false
set_option maxRecDepth 100000
namespace Go.Xt
set_option linter.defProp false
theorem RC: ∀ {xs ys:List Int},xs.Pairwise (· < ·)→ys.Pairwise (· < ·)→(∀a,a∈xs↔a∈ys)→xs=ys
 | [],[],_,_,_=>rfl
 | [],y::ys,_,_,h=>by have:=(h y).2 (by simp);simp at this
 | x::xs,[],_,_,h=>by have:=(h x).1 (by simp);simp at this
 | x::xs,y::ys,h1,h2,h=>by
  rw[List.pairwise_cons] at h1 h2
  have e:x=y:=by
   have a:=(h x).1 (by simp)
   have b:=(h y).2 (by simp)
   rw[List.mem_cons] at a b
   rcases a with a | a
   ·exact a
   ·rcases b with b | b
    ·exact b.symm
    ·have:=h2.1 x a;have:=h1.1 y b;omega
  subst e
  rw[RC h1.2 h2.2 fun a=>⟨fun ha=>?_,fun ha=>?_⟩]
  ·have:=(h a).1 (by simp[ha])
   rw[List.mem_cons] at this
   rcases this with e | e
   ·have:=h1.1 a ha;omega
   ·exact e
  ·have:=(h a).2 (by simp[ha])
   rw[List.mem_cons] at this
   rcases this with e | e
   ·have:=h2.1 a ha;omega
   ·exact e
theorem zz: ∀ {r:List Int} {p:Int},r.Pairwise (· ≤ ·)→(∀a∈r,p≤a)→(nb p r).Pairwise (· < ·)∧(∀a,a∈nb p r↔a∈r∧a≠p)
 | [],p,_,_=>by simp[nb]
 | y::r,p,h1,h2=>by
  rw[List.pairwise_cons] at h1
  unfold nb
  by_cases e:y=p
  ·subst e
   obtain ⟨a,b⟩:=zz h1.2 h1.1
   rw[if_pos rfl]
   refine ⟨a,fun z=>?_⟩
   rw[b,List.mem_cons]
   exact ⟨fun h=>⟨.inr h.1,h.2⟩,fun h=>⟨h.1.resolve_left h.2,h.2⟩⟩
  ·obtain ⟨a,b⟩:=zz h1.2 h1.1
   rw[if_neg e]
   refine ⟨List.pairwise_cons.2 ⟨fun z hz=>?_,a⟩,fun z=>?_⟩
   ·have:=(b z).1 hz
    have:=h1.1 z this.1
    omega
   ·have hy:=h2 y (by simp)
    rw[List.mem_cons,b,List.mem_cons]
    constructor
    ·rintro (rfl | ⟨h,h'⟩)
     ·exact ⟨.inl rfl,e⟩
     ·exact ⟨.inr h,by have:=h1.1 z h;omega⟩
    ·rintro ⟨rfl | h,h'⟩
     ·exact .inl rfl
     ·by_cases z=y
      ·left;assumption
      ·right;exact ⟨h,by assumption⟩
theorem SS{l:List Int}(h:l.Pairwise (· ≤ ·)):(bK l).Pairwise (· < ·)∧ ∀a,a∈bK l↔a∈l:=by
 cases l with
 | nil=>simp[bK]
 | cons x r =>
  rw[List.pairwise_cons] at h
  obtain ⟨a,b⟩:=zz h.2 h.1
  unfold bK
  refine ⟨List.pairwise_cons.2 ⟨fun z hz=>?_,a⟩,fun z=>?_⟩
  ·have:=(b z).1 hz
   have:=h.1 z this.1
   omega
  ·rw[List.mem_cons,b,List.mem_cons]
   by_cases e:z=x<;>simp[e]
theorem Ol{l:List Int}{a:Int}:a∈nc l↔a∈l:=List.mem_mergeSort
theorem Qh(l:List Int):(nc l).Pairwise (· ≤ ·):=by
 have:=List.pairwise_mergeSort (le:=fun x y:Int=>decide (x≤y)) (by intro a b c;simp;omega) (by intro a b;simp;omega) l
 simpa[nc] using this
theorem Om{a:Int}:a∈u5↔isN a=true:=by
 rw[dr];simp[u5];omega
theorem RD:u5.Pairwise (· < ·):=by decide
theorem Mf{l:List Int}(h: ∀a∈l,isN a=true):bK (nc l)=u5.filter fun n=>l.contains n:=by
 obtain ⟨a,b⟩:=SS (Qh l)
 refine RC a (RD.filter _) fun z=>?_
 rw[b,Ol,List.mem_filter,Om]
 simp only[List.contains_eq_mem,decide_eq_true_eq]
 exact ⟨fun hz=>⟨h z hz,hz⟩,fun hz=>hz.2⟩
theorem uM{k:Int}: ∀(l:List Int) (b d:Int),(ey k b d l=b∧(0≤b∨l=[]))∨ey k b d l∈l
 | [],b,d=>.inl ⟨rfl,.inr rfl⟩
 | x::r,b,d=>by
  unfold ey
  split
  ·rcases uM r x (far k (nn x)) with ⟨h,_⟩ | h
   ·right;rw[h];simp
   ·right;simp[h]
  ·rename_i hb
   rcases uM r b d with ⟨h,_⟩ | h
   ·left;exact ⟨h,.inl (by omega)⟩
   ·right;simp[h]
theorem CU{live:List Int}{k:Int}(h:live≠[]):pH live k∈live:=by
 rcases uM (k:=k) live (-1) 0 with ⟨_,h1 | h1⟩ | h1
 ·omega
 ·exact absurd h1 h
 ·exact h1
theorem wZ(live:List Int)(self:Int)(k:Nat):mV live self (k+1)=mV live self k++if pH live (ny self k)≠self then [pH live (ny self k)] else []:=by
 unfold mV
 rw[List.range_succ,List.map_append,List.filter_append]
 congr 1
 by_cases h:pH live (ny self k)=self<;>simp[h]
theorem GF(live:List Int)(self:Int): ∀k:Nat,(mV live self k).length≤k
 | 0=>by simp[mV]
 | k+1=>by
  have:=GF live self k
  rw[wZ,List.length_append]
  split<;>simp<;>omega
theorem GG{live:List Int}{self n:Int}{k:Nat}(h0:live≠[])(h:n∈mV live self k):n∈live∧n≠self:=by
 unfold mV at h
 simp only[List.mem_filter,List.mem_map,decide_eq_true_eq] at h
 obtain ⟨⟨i,_,rfl⟩,h2⟩:=h
 exact ⟨CU h0,h2⟩
theorem Mg(self:Int){i:Nat}(h:i<62):0≤ny self i∧ny self i<4611686018427387904:=by
 have b:(1:Int)≤2 ^ i∧(2:Int) ^ i<4611686018427387904:=Jz ⟨i,h⟩
 exact Uf (by omega) b.2 (rd self).1 (rd self).2
theorem On{live:List Int}{self:Int}(h1:live.all isN=true)(h3:live≠[]):bK (nc (mV live self 62))=iA live self:=by
 rw[List.all_eq_true] at h1
 rw[Mf fun a ha=>h1 a (GG h3 ha).1];rfl
theorem Oo(l:List Int):(nc l).length=l.length:=List.length_mergeSort ..
def ke:=And.intro @pp (And.intro @NX (And.intro @EI (And.intro @tu (@pM))))
theorem AY(live:List Int)(self:Int)(hp:live.all isN=true∧isN self=true∧live≠[])(hg:ag (du (live,self)).2.1):WW ρ 2 nk du (live,self):=by
 simp only[du,RR] at hg ⊢
 unfold nk
 obtain ⟨p1,p2,p3⟩:=hp
 simp (disch:=first|omega|assumption|(constructor<;>first|assumption|omega)|simp only[LN];omega) only[↓SB,S1,↓ke,p2,if_true]
 refine aw.rule (α:=Nat) (fun i=>[I i,L (mV live self i)]) (fun i=>i≤62) (fun i=>62-i) 0 rfl (by simp) (fun _=>rfl) ?_
 intro i h4
 simp only[app] at *
 have hl:=GF live self i
 simp (disch:=first|omega|assumption|(constructor<;>first|assumption|omega)|simp only[LN];omega) only[↓SB,S1,↓ke]
 refine ⟨fun h6=>?_,fun h6=>?_⟩
 ·have e:(isK (nn self)&&decide (0≤(i:Int))&&decide ((i:Int)≤61))=true:=by simp[Ue];omega
  have hb:=Mg self (i:=i) (by omega)
  have hk:live.all isN=true∧0≤ny self i∧ny self i<4611686018427387904:=⟨p1,hb⟩
  have e2:far (2 ^ i) (nn self)=ny self i:=rfl
  simp (disch:=first|omega|assumption|(constructor<;>first|assumption|omega)|simp only[LN];omega) only[↓SB,S1,↓ke,e,if_true,Int.toNat_natCast,e2]
  refine ⟨fun h7=>⟨i+1,?_,by omega,by omega⟩,fun h7=>⟨i+1,?_,by omega,by omega⟩⟩
  ·rw[wZ];simp[h7]
  ·rw[wZ];simp[h7]
 ·have e:i=62:=by omega
  subst e
  have hs:=Oo (mV live self 62)
  simp (disch:=first|omega|assumption|(constructor<;>first|assumption|omega)|simp only[LN];omega) only[↓SB,S1,↓ke,On p1 p3]
theorem uN{self:Int}: ∀(l:List Int) (b d:Int),dZ self b d l=b∨(dZ self b d l∈l∧dZ self b d l≠self)
 | [],b,d=>.inl rfl
 | x::r,b,d=>by
  unfold dZ
  split
  ·rename_i h1
   rcases uN r x (far (nn x) (nn self)) with h | h
   ·right;rw[h];exact ⟨by simp,h1.1⟩
   ·right;exact ⟨by simp[h],h.2⟩
  ·rcases uN r b d with h | h
   ·left;exact h
   ·right;exact ⟨by simp[h],h.2⟩
theorem Oq(live:List Int)(self:Int):kn live self= -1∨(kn live self∈live∧kn live self≠self):=uN live (-1) 0
theorem Ar(live:List Int)(self:Int):(iA live self).length≤8:=by
 have:=List.length_filter_le (fun n=>(mV live self 62).contains n) u5
 exact this
def sS:=And.intro @dC (And.intro @AK (@EJ))
theorem JB(t:Int)(live:List Int)(self:Int)(hp:live.all isN=true∧isN self=true∧live≠[])(hg:ag (ge (t,live,self)).2.1):WW ρ 3 rZ ge (t,live,self):=by
 simp only[ge,RR] at hg ⊢
 unfold rZ iG
 have hA:live.all isN=true∧isN self=true:=⟨hp.1,hp.2.1⟩
 have hl:=Ar live self
 simp (disch:=first|omega|assumption|(constructor<;>first|assumption|omega)|simp only[LN];omega) only[↓SB,S1,↓sS]
 have hl2:(iA live self++[kn live self]).length≤9:=by simp;omega
 generalize iA live self++[kn live self]=l at hl2 ⊢
 refine aw.rule (α:=Nat×Int) (fun a=>[I a.2,I a.1]) (fun a=>a.1≤l.length∧fw t a.2 (l.drop a.1)=fw t self l) (fun a=>l.length-a.1) (0,self) rfl ⟨by simp,by simp⟩ (fun _=>rfl) ?_
 rintro ⟨i,b⟩ ⟨h4,h5⟩
 simp only[app] at *
 simp (disch:=first|omega|assumption|(constructor<;>first|assumption|omega)|simp only[LN];omega) only[↓SB,S1,↓sS]
 refine ⟨fun h6=>?_,fun h6=>?_⟩
 ·obtain ⟨x,hx⟩:=am h6
  rw[az hx,fw] at h5
  simp (disch:=first|omega|assumption|(constructor<;>first|assumption|omega)|simp only[LN];omega) only[↓SB,S1,↓sS,ab hx]
  refine ⟨fun h7=>⟨(i+1,x),by simp,⟨by simp;omega,by simpa[h7] using h5⟩,by simp;omega⟩,fun h7=>⟨(i+1,b),by simp,⟨by simp;omega,by simpa[h7] using h5⟩,by simp;omega⟩⟩
 ·rw[aq h6,fw] at h5
  rw[←h5]
  refine ⟨fun h=>by simp[h],fun h=>by simp[h]⟩
theorem sT{t:Int}: ∀(l:List Int) (b:Int),fw t b l=b∨(fD t (fw t b l) b=true∧fw t b l∈l)
 | [],b=>.inl rfl
 | x::r,b=>by
  unfold fw
  by_cases h:fD t x b=true
  ·rw[if_pos h]
   rcases sT r x (t:=t) with e | e
   ·right;rw[e];exact ⟨h,by simp⟩
   ·right;exact ⟨sP e.1 h,by simp[e.2]⟩
  ·rw[if_neg h]
   rcases sT r b (t:=t) with e | e
   ·left;exact e
   ·right;exact ⟨e.1,by simp[e.2]⟩
theorem Ot(t:Int)(live:List Int)(self:Int):iG t live self= -1∨(fD t (iG t live self) self=true∧iG t live self∈iA live self++[kn live self]):=by
 unfold iG
 split
 ·left;rfl
 ·rename_i h
  exact .inr ((sT _ _).resolve_left h)
def yt:=And.intro @EK (@Ix)
theorem JC(t:Int)(live:List Int)(self:Int)(hg:ag (gf (t,live,self)).2.1):WW ρ 3 s0 gf (t,live,self):=by
 simp only[gf,RR] at hg ⊢
 unfold s0
 simp (disch:=first|omega|assumption|(constructor<;>first|assumption|omega)|simp only[LN];omega) only[↓SB,S1,↓yt]
 refine ⟨fun h=>by simp[h],fun h=>?_⟩
 have hB:live.all isN=true∧isN self=true∧live≠[]:=by
  unfold u6 at h
  by_cases h2:AJ live self=0
  ·exact (vq h2).2.1
  ·rw[if_neg h2] at h;exact absurd h h2
 simp (disch:=first|omega|assumption|(constructor<;>first|assumption|omega)|simp only[LN];omega) only[↓SB,S1,↓yt]
 refine ⟨fun h2=>?_,fun h2=>?_⟩
 ·have:max (iG t live self) 0=0:=by omega
  simp[h,this];omega
 ·have:max (iG t live self) 0=iG t live self:=by omega
  simp[h,this];omega
end Go.Xt
end
section
set_option linter.unusedSimpArgs false
set_option linter.unusedVariables false
set_option maxRecDepth 100000
namespace Go.Xt
set_option linter.defProp false
def CV:=And.intro @ow (@rK)
theorem CW(n:Int)(self:Int)(hp:isN n=true∧isN self=true):WW ρ 2 oD fJ (n,self):=by
 simp only[fJ,RR]
 unfold oD
 have h1:=rd n
 have h2:=rd self
 obtain ⟨h3,h4⟩:=hp
 simp (disch:=first|omega|assumption|(constructor<;>first|assumption|omega)|simp only[LN];omega) only[↓SB,S1,↓CV]
theorem As{self b d d':Int}(h:b<0): ∀l:List Int,dZ self b d l=dZ self b d' l
 | []=>rfl
 | x::r=>by
  unfold dZ
  simp only[h,true_or,and_true]
  rw[As h r]
theorem Fz(live:List Int)(self:Int)(hp:live.all isN=true∧isN self=true)(hg:ag (eP (live,self)).2.1):WW ρ 2 pW eP (live,self):=by
 simp only[eP,RR] at hg ⊢
 unfold pW kn
 simp only[ag,aR] at hg
 obtain ⟨p1,p2⟩:=hp
 rw[List.all_eq_true] at p1
 refine aw.rule (α:=Nat×Int) (fun a=>[I a.2,I a.1]) (fun a=>a.1≤live.length∧(a.2<0∨isN a.2=true)∧dZ self a.2 (far (nn a.2) (nn self)) (live.drop a.1)=dZ self (-1) 0 live) (fun a=>live.length-a.1) (0,-1) rfl ⟨by simp,by simp,As (by omega) live⟩ (fun _=>rfl) ?_
 rintro ⟨i,b⟩ ⟨h4,hb,h5⟩
 simp only[app] at *
 simp (disch:=first|omega|assumption|(constructor<;>first|assumption|omega)|simp only[LN];omega) only[↓SB,S1,↓oy]
 refine ⟨fun h6=>?_,fun h6=>?_⟩
 ·obtain ⟨x,hx⟩:=am h6
  rw[az hx,dZ] at h5
  have hN:=p1 x (List.mem_of_getElem? hx)
  have hp1:isN x=true∧isN self=true:=⟨hN,p2⟩
  simp (disch:=first|omega|assumption|(constructor<;>first|assumption|omega)|simp only[LN];omega) only[↓SB,S1,↓oy,ab hx]
  refine ⟨fun h7=>⟨fun h8=>⟨(i+1,x),by simp,⟨by simp;omega,.inr hN,by simpa[h7,h8] using h5⟩,by simp;omega⟩,fun h8=>?_⟩,fun h7=>⟨(i+1,b),by simp,⟨by simp;omega,hb,by simpa[h7] using h5⟩,by simp;omega⟩⟩
  have hp2:isN b=true∧isN self=true:=⟨hb.resolve_left h8,p2⟩
  simp (disch:=first|omega|assumption|(constructor<;>first|assumption|omega)|simp only[LN];omega) only[↓SB,S1,↓oy]
  refine ⟨fun h9=>⟨(i+1,x),by simp,⟨by simp;omega,.inr hN,by simpa[h7,h8,h9] using h5⟩,by simp;omega⟩,fun h9=>⟨(i+1,b),by simp,⟨by simp;omega,hb,by simpa[h7,h8,h9] using h5⟩,by simp;omega⟩⟩
 ·rw[aq h6,dZ] at h5
  simp[←h5]
theorem Mh{k b d d':Int}(h:b<0): ∀l:List Int,ey k b d l=ey k b d' l
 | []=>rfl
 | x::r=>by
  unfold ey
  simp only[h,true_or,if_true]
def mk(live:List Int)(self:Int)(i:Nat):List Bool:=(List.range 8).map fun (n:Nat)=>((List.range i).map fun j=>pH live (ny self j)).contains (n:Int)
theorem map_set{k m:Nat}{f g:Nat→Bool}(h: ∀n,g n=(f n||decide (m=n))):(List.range k).map g=((List.range k).map f).set m true:=by
 refine List.ext_getElem (by simp) fun n h1 h2=>?_
 rw[List.getElem_set]
 simp only[List.getElem_map,List.getElem_range,h]
 by_cases e:m=n<;>simp[e]
theorem ST{live:List Int}{self:Int}{i m:Nat}(h:pH live (ny self i)=m):mk live self (i+1)=(mk live self i).set m true:=by
 refine map_set fun n=>?_
 rw[Bool.eq_iff_iff]
 simp only[List.contains_eq_mem,decide_eq_true_eq,Bool.or_eq_true,List.range_succ,List.map_append,List.map_cons,List.map_nil,h,List.mem_append,List.mem_singleton]
 exact or_congr Iff.rfl (by omega)
theorem RE(live:List Int)(self:Int)(i:Nat):(mk live self i).length=8:=by simp[mk]
theorem RF{k:PV→Prop}:OP (.repl 1 [(.bool false)]) [I 8] k=k (L (List.replicate 8 false)):=aL (by simp[ev,tB,L,Row.row,Lit.pv])
theorem JD:u5=(List.range 8).map fun (n:Nat)=>(n:Int):=by decide
def fgo(live:List Int)(self:Int)(n:Nat):List Int:=((List.range n).map fun (k:Nat)=>(k:Int)).filter fun n=>(mV live self 62).contains n
theorem Ou(p:Int→Bool)(n:Nat):(List.map (fun (k:Nat)=>(k:Int)) [n]).filter p=if p (n:Int) then [(n:Int)] else []:=by
 cases h:p (n:Int)<;>simp[h]
theorem RG(live:List Int)(self:Int)(n:Nat):fgo live self (n+1)=fgo live self n++if (mV live self 62).contains (n:Int) then [(n:Int)] else []:=by
 unfold fgo
 rw[List.range_succ,List.map_append,List.filter_append]
 congr 1
 exact Ou _ n
theorem SU{live:List Int}{self:Int}{n:Nat}{x:Bool}(h:(mk live self 62)[n]? =some x):(mV live self 62).contains (n:Int)=(x&& !decide ((n:Int)=self)):=by
 obtain ⟨h1,h2⟩:=List.getElem?_eq_some_iff.1 h
 rw[←h2,Bool.eq_iff_iff]
 simp only[mk,mV,List.getElem_map,List.getElem_range,List.contains_eq_mem,List.mem_filter,decide_eq_true_eq,Bool.and_eq_true,Bool.not_eq_true',decide_eq_false_iff_not]
theorem SW(live:List Int)(self:Int)(n:Nat):(fgo live self n).length≤n:=by
 have:=List.length_filter_le (fun n=>(mV live self 62).contains n) ((List.range n).map fun (k:Nat)=>(k:Int))
 simpa[fgo] using this
def bR:=And.intro @ow (@rK)
theorem AZ(live:List Int)(self:Int)(hp:live.all isN=true∧isN self=true∧live≠[])(hg:ag (dv (live,self)).2.1):WW ρ 2 nm dv (live,self):=by
 simp only[dv,RR] at hg ⊢
 unfold nm
 simp only[ag,aR] at hg
 obtain ⟨p1,p2,p3⟩:=hp
 have q1:=p1
 rw[List.all_eq_true] at q1
 rw[RF]
 simp (disch:=first|omega|assumption|(constructor<;>first|assumption|omega)|simp only[LN];omega) only[↓SB,S1,↓bR]
 have hS:=rd self
 refine aw.rule (α:=Nat) (fun i=>[I i,L (mk live self i)]) (fun i=>i≤62) (fun i=>62-i) 0 rfl (by simp) (fun _=>rfl) ?_
 intro i h4
 simp only[app] at *
 simp (disch:=first|omega|assumption|(constructor<;>first|assumption|omega)|simp only[LN];omega) only[↓SB,S1,↓bR]
 refine ⟨fun h6=>?_,fun h6=>?_⟩
 ·have hpw:(1:Int)≤2 ^ i∧(2:Int) ^ i<4611686018427387904:=Jz ⟨i,by omega⟩
  rw[zy (by omega) (by omega)]
  simp (disch:=first|omega|assumption|(constructor<;>first|assumption|omega)|simp only[LN];omega) only[↓SB,S1,↓bR,Int.toNat_natCast]
  refine SUB.v1 (I (ny self i)) ?_ ?_
  ·simp (disch:=first|omega|assumption|(constructor<;>first|assumption|omega)|simp only[LN];omega) only[↓SB,S1,↓bR]
   unfold ny far
   refine ⟨fun h=>?_,fun h=>?_⟩
   ·rw[if_pos h];simp;omega
   ·rw[if_neg h]
  have hb:=Mg self (i:=i) (by omega)
  generalize hk:ny self i=k at hb ⊢
  refine aw.rule (α:=Nat×Int) (fun a=>[I a.2,I a.1]) (fun a=>a.1≤live.length∧(a.2<0∨isN a.2=true)∧ey k a.2 (far k (nn a.2)) (live.drop a.1)=ey k (-1) 0 live) (fun a=>live.length-a.1) (0,-1) rfl ⟨by simp,by simp,Mh (by omega) live⟩ (fun _=>rfl) ?_
  rintro ⟨j,b⟩ ⟨g4,gb,g5⟩
  simp only[app] at *
  simp (disch:=first|omega|assumption|(constructor<;>first|assumption|omega)|simp only[LN];omega) only[↓SB,S1,↓bR]
  refine ⟨fun g6=>?_,fun g6=>?_⟩
  ·obtain ⟨x,hx⟩:=am g6
   rw[az hx,ey] at g5
   have hN:=q1 x (List.mem_of_getElem? hx)
   have hB:=rd x
   simp (disch:=first|omega|assumption|(constructor<;>first|assumption|omega)|simp only[LN];omega) only[↓SB,S1,↓bR,ab hx]
   refine ⟨fun g8=>⟨(j+1,x),by simp,⟨by simp;omega,.inr hN,by simpa[g8] using g5⟩,by simp;omega⟩,fun g8=>?_⟩
   have hN2:=gb.resolve_left g8
   have hB2:=rd b
   simp (disch:=first|omega|assumption|(constructor<;>first|assumption|omega)|simp only[LN];omega) only[↓SB,S1,↓bR]
   refine ⟨fun g9=>⟨(j+1,x),by simp,⟨by simp;omega,.inr hN,by simpa[g8,g9] using g5⟩,by simp;omega⟩,fun g9=>⟨(j+1,b),by simp,⟨by simp;omega,gb,by simpa[g8,g9] using g5⟩,by simp;omega⟩⟩
  ·rw[aq g6,ey] at g5
   have g7:b=pH live (ny self i):=by rw[hk];exact g5
   have g8:=dr.1 (q1 _ (CU (k:=ny self i) p3))
   rw[←g7] at g8
   obtain ⟨m,rfl⟩:=Int.eq_ofNat_of_zero_le g8.1
   have hl:=RE live self i
   simp (disch:=first|omega|assumption|(constructor<;>first|assumption|omega)|simp only[LN];omega) only[↓SB,S1,↓bR]
   obtain ⟨y,hy⟩:=am (xs:=mk live self i) (i:=m) (by omega)
   rw[bk (y:=true) hy rfl]
   exact ⟨i+1,by rw[ST g7.symm];simp,by omega,by omega⟩
 ·have e:i=62:=by omega
  subst e
  have hl:=RE live self 62
  refine aw.rule (α:=Nat) (fun n=>[I n,L (fgo live self n)]) (fun n=>n≤8) (fun n=>8-n) 0 rfl (by simp) (fun _=>rfl) ?_
  intro n h7
  simp only[app]
  have hl2:=SW live self n
  simp (disch:=first|omega|assumption|(constructor<;>first|assumption|omega)|simp only[LN];omega) only[↓SB,S1,↓bR]
  refine ⟨fun h8=>?_,fun h8=>?_⟩
  ·obtain ⟨y,hy⟩:=am (xs:=mk live self 62) (i:=n) (by omega)
   have hf:=SU hy
   have hs:=RG live self n
   rw[hf] at hs
   simp (disch:=first|omega|assumption|(constructor<;>first|assumption|omega)|simp only[LN];omega) only[↓SB,S1,↓bR,ab hy]
   refine ⟨fun h9=>⟨fun h10=>⟨n+1,by rw[hs];simp[h9,h10],by omega,by omega⟩,fun h10=>⟨n+1,by rw[hs];simp[h9,h10],by omega,by omega⟩⟩,fun h9=>⟨n+1,by rw[hs];simp[h9],by omega,by omega⟩⟩
  ·have:n=8:=by omega
   subst this
   unfold iA
   rw[JD];rfl
theorem FA(t:Int)(l:List Int)(hp:isT t=true∧l.all isN=true)(hg:ag (eQ (t,l)).2.1):WW ρ 2 pX eQ (t,l):=by
 simp only[eQ,RR] at hg ⊢
 unfold pX wD
 simp only[ag,aR] at hg
 obtain ⟨p1,p2⟩:=hp
 rw[List.all_eq_true] at p2
 refine aw.rule (α:=Nat×Int) (fun a=>[I a.2,I a.1]) (fun a=>a.1≤l.length∧(a.2<0∨isN a.2=true)∧xU t a.2 (l.drop a.1)=xU t (-1) l) (fun a=>l.length-a.1) (0,-1) rfl ⟨by simp,by simp,rfl⟩ (fun _=>rfl) ?_
 rintro ⟨i,b⟩ ⟨h4,hb,h5⟩
 simp only[app] at *
 simp (disch:=first|omega|assumption|(constructor<;>first|assumption|omega)|simp only[LN];omega) only[↓SB,S1,↓kS]
 refine ⟨fun h6=>?_,fun h6=>?_⟩
 ·obtain ⟨x,hx⟩:=am h6
  rw[az hx,xU] at h5
  have hN:=p2 x (List.mem_of_getElem? hx)
  have hp1:isT t=true∧isN x=true:=⟨p1,hN⟩
  simp (disch:=first|omega|assumption|(constructor<;>first|assumption|omega)|simp only[LN];omega) only[↓SB,S1,↓kS,ab hx]
  refine ⟨fun h8=>⟨(i+1,x),by simp,⟨by simp;omega,.inr hN,by simpa[h8] using h5⟩,by simp;omega⟩,fun h8=>?_⟩
  have hp2:isT t=true∧isN b=true:=⟨p1,hb.resolve_left h8⟩
  simp (disch:=first|omega|assumption|(constructor<;>first|assumption|omega)|simp only[LN];omega) only[↓SB,S1,↓kS]
  refine ⟨fun h9=>⟨(i+1,x),by simp,⟨by simp;omega,.inr hN,by simpa[h8,h9] using h5⟩,by simp;omega⟩,fun h9=>⟨(i+1,b),by simp,⟨by simp;omega,hb,by simpa[h8,h9] using h5⟩,by simp;omega⟩⟩
 ·rw[aq h6,xU] at h5
  simp[←h5]
theorem JE{t:Int}: ∀(l:List Int) (b:Int),(∀x∈l,0≤x)→(xU t b l=b∧(0≤b∨l=[])∨xU t b l∈l)∧(∀x∈l,gap t (xU t b l)≤gap t x)∧(0≤b→gap t (xU t b l)≤gap t b)
 | [],b,_=>⟨.inl ⟨rfl,.inr rfl⟩,by simp,fun _=>Int.le_refl _⟩
 | x::r,b,hl=>by
  have hl2: ∀x∈r,0≤x:=fun y hy=>hl y (by simp[hy])
  have hx:=hl x (by simp)
  unfold xU
  split
  ·rename_i hc
   obtain ⟨h1,h2,h3⟩:=JE r x hl2 (t:=t)
   refine ⟨?_,?_,fun hb=>?_⟩
   ·rcases h1 with h | h
    ·right;rw[h.1];simp
    ·right;simp[h]
   ·intro y hy
    rcases List.mem_cons.1 hy with rfl | hy
    ·exact h3 hx
    ·exact h2 y hy
   ·have:=h3 hx;omega
  ·rename_i hc
   obtain ⟨h1,h2,h3⟩:=JE r b hl2 (t:=t)
   have hb:0≤b:=by omega
   refine ⟨?_,?_,h3⟩
   ·rcases h1 with h | h
    ·exact .inl ⟨h.1,.inl hb⟩
    ·right;simp[h]
   ·intro y hy
    rcases List.mem_cons.1 hy with rfl | hy
    ·have:=h3 hb;omega
    ·exact h2 y hy
theorem Qi{t:Int}{l:List Int}(hl:l.all isN=true)(h:l≠[]):wD t l∈l∧ ∀x∈l,gap t (wD t l)≤gap t x:=by
 rw[List.all_eq_true] at hl
 obtain ⟨h1,h2,_⟩:=JE l (-1) (fun x hx=>(dr.1 (hl x hx)).1) (t:=t)
 refine ⟨?_,h2⟩
 rcases h1 with ⟨_,h3 | h3⟩ | h3
 ·omega
 ·exact absurd h3 h
 ·exact h3
def vY(t self:Int):Int→List Int→Int
 | b,[]=>b
 | b,x::r=>vY t self (if 0≤x∧fD t x self=true∧(b<0∨fD t x b=true) then x else b) r
theorem zA{t self:Int}: ∀(l:List Int) (b:Int),fD t b self=true→vY t self b l=fw t b l
 | [],_,_=>rfl
 | x::r,b,h=>by
  have hb:=(jc h).2.1.1
  unfold vY fw
  by_cases e:fD t x b=true
  ·have e2:=sP e h
   have hx:=(jc e).2.1.1
   rw[if_pos ⟨hx,e2,.inr e⟩,if_pos e,zA r x e2]
  ·rw[if_neg,if_neg e,zA r b h]
   rintro ⟨_,_,h3 | h3⟩
   ·omega
   ·exact e h3
theorem GH{t self:Int}: ∀(l:List Int),vY t self (-1) l=if fw t self l=self then -1 else fw t self l
 | []=>by simp[vY,fw]
 | x::r=>by
  unfold vY fw
  by_cases e:fD t x self=true
  ·have hx:=(jc e).2.1.1
   rw[if_pos ⟨hx,e,.inl (by omega)⟩,if_pos e,zA r x e,if_neg]
   rcases sT r x (t:=t) with h | h
   ·rw[h];exact Pl e
   ·exact Pl (sP h.1 e)
  ·rw[if_neg (fun h=>e h.2.1),if_neg e,GH r]
theorem Ov{live:List Int}{self x:Int}(h3:live≠[])(h:x∈iA live self++[kn live self]):x= -1∨(x∈live∧x≠self):=by
 rw[List.mem_append,List.mem_singleton] at h
 rcases h with h | h
 ·right
  unfold iA at h
  rw[List.mem_filter] at h
  exact GG h3 (by simpa using h.2)
 ·rcases Oq live self with e | e
  ·left;rw[h,e]
  ·right;rw[h];exact e
theorem CX{t b:Int}: ∀ {l:List Int},(∀x∈l,fD t x b=false)→fw t b l=b
 | [],_=>rfl
 | x::r,h=>by
  unfold fw
  rw[h x (by simp)]
  exact CX fun y hy=>h y (by simp[hy])
theorem Ow{t:Int}{live:List Int}{self:Int}(h1:live.all isN=true)(h3:live≠[])(h:wD t live=self):iG t live self= -1:=by
 unfold iG
 rw[CX,if_pos rfl]
 intro x hx
 rcases Ov h3 hx with rfl | hx
 ·simp[fD,isN]
 ·have:=(Qi (t:=t) h1 h3).2 x hx.1
  rw[h] at this
  simp only[fD,Bool.and_eq_false_iff,decide_eq_false_iff_not]
  right;omega
def sU:=And.intro @vP (And.intro @AL (And.intro @EL (@lu)))
theorem JF(t:Int)(live:List Int)(self:Int)(hp:isT t=true∧AJ live self=0)(hg:ag (gg (t,live,self)).2.1):WW ρ 3 s4 gg (t,live,self):=by
 simp only[gg,RR] at hg ⊢
 unfold s4
 obtain ⟨p1,p2⟩:=hp
 have hA:=(vq p2).1
 have hB:=(vq p2).2.1
 have hC:isT t=true∧live.all isN=true:=⟨p1,hA.1⟩
 have hB2:live.all isN=true∧isN self=true∧live≠[]:=hB
 have hl:=Ar live self
 simp (disch:=first|omega|assumption|(constructor<;>first|assumption|omega)|simp only[LN];omega) only[↓SB,S1,↓sU]
 refine ⟨fun h=>?_,fun h=>?_⟩
 ·rw[Ow hA.1 hB.2.2 h]
 have hl2:(iA live self++[kn live self]).length≤9:=by simp;omega
 unfold iG
 rw[←GH]
 generalize iA live self++[kn live self]=l at hl2 ⊢
 refine aw.rule (α:=Nat×Int) (fun a=>[I a.2,I a.1]) (fun a=>a.1≤l.length∧vY t self a.2 (l.drop a.1)=vY t self (-1) l) (fun a=>l.length-a.1) (0,-1) rfl ⟨by simp,by simp⟩ (fun _=>rfl) ?_
 rintro ⟨i,b⟩ ⟨h4,h5⟩
 simp only[app] at *
 simp (disch:=first|omega|assumption|(constructor<;>first|assumption|omega)|simp only[LN];omega) only[↓SB,S1,↓sU]
 refine ⟨fun h6=>?_,fun h6=>?_⟩
 ·obtain ⟨x,hx⟩:=am h6
  rw[az hx,vY] at h5
  simp (disch:=first|omega|assumption|(constructor<;>first|assumption|omega)|simp only[LN];omega) only[↓SB,S1,↓sU,ab hx]
  refine ⟨fun h7=>⟨fun h8=>⟨fun h9=>⟨(i+1,x),by simp,⟨by simp;omega,by simpa[h7,h8,h9] using h5⟩,by simp;omega⟩,fun h9=>⟨fun h10=>⟨(i+1,x),by simp,⟨by simp;omega,by simpa[h7,h8,h9,h10] using h5⟩,by simp;omega⟩,fun h10=>⟨(i+1,b),by simp,⟨by simp;omega,by simpa[h7,h8,h9,h10] using h5⟩,by simp;omega⟩⟩⟩,fun h8=>⟨(i+1,b),by simp,⟨by simp;omega,by simpa[h7,h8] using h5⟩,by simp;omega⟩⟩,fun h7=>⟨(i+1,b),by simp,⟨by simp;omega,by simpa[h7] using h5⟩,by simp;omega⟩⟩
 ·rw[aq h6,vY] at h5
  simp[←h5]
end Go.Xt
end
section
set_option linter.unusedSimpArgs false
set_option linter.unusedVariables false
set_option maxRecDepth 100000
namespace Go.Xt
set_option linter.defProp false
instance:FlatRow Call:=⟨fun a q hq=>by simp[Row.row] at hq;rcases hq with rfl | rfl | rfl<;>rfl⟩
instance:FlatRow Mark:=⟨fun a q hq=>by simp[Row.row] at hq;rcases hq with rfl | rfl | rfl<;>rfl⟩
instance:FlatRow Mark2:=⟨fun a q hq=>by simp[Row.row] at hq;rcases hq with rfl | rfl | rfl | rfl | rfl<;>rfl⟩
theorem n7{w:Nat}{k:PV→Prop}(h:0<w):OP (.rows w) [] k=k (.list []):=aL (by simp[ev,cK];omega)
theorem lE(l:List Peer)(hp:l.length≤1000000):WW ρ 1 cD aS l:=by
 simp only[aS,RR]
 unfold cD
 rw[u0]
 refine ⟨fun h=>?_,?_⟩
 ·subst h;simp (disch:=first|omega|assumption|(constructor<;>first|assumption|omega)|simp only[LN];omega) only[↓SB,S1]
  rfl
 ·simp (disch:=first|omega|assumption|(constructor<;>first|assumption|omega)|simp only[LN];omega) only[↓SB,S1,↓n7]
theorem lF(l:List Call)(hp:l.length≤1000000):WW ρ 1 cE aT l:=by
 simp only[aT,RR]
 unfold cE
 rw[u0]
 refine ⟨fun h=>?_,?_⟩
 ·subst h;simp (disch:=first|omega|assumption|(constructor<;>first|assumption|omega)|simp only[LN];omega) only[↓SB,S1]
  rfl
 ·simp (disch:=first|omega|assumption|(constructor<;>first|assumption|omega)|simp only[LN];omega) only[↓SB,S1,↓n7]
theorem lG(l:List Mark)(hp:l.length≤1000000):WW ρ 1 cF aU l:=by
 simp only[aU,RR]
 unfold cF
 rw[u0]
 refine ⟨fun h=>?_,?_⟩
 ·subst h;simp (disch:=first|omega|assumption|(constructor<;>first|assumption|omega)|simp only[LN];omega) only[↓SB,S1]
  rfl
 ·simp (disch:=first|omega|assumption|(constructor<;>first|assumption|omega)|simp only[LN];omega) only[↓SB,S1,↓n7]
theorem kB(l:List Mark2)(hp:l.length≤1000000):WW ρ 1 cg aI l:=by
 simp only[aI,RR]
 unfold cg
 rw[u0]
 refine ⟨fun h=>?_,?_⟩
 ·subst h;simp (disch:=first|omega|assumption|(constructor<;>first|assumption|omega)|simp only[LN];omega) only[↓SB,S1]
  rfl
 ·simp (disch:=first|omega|assumption|(constructor<;>first|assumption|omega)|simp only[LN];omega) only[↓SB,S1,↓n7]
theorem my(l:List Kid)(hp:l.length≤1000000):WW ρ 1 da aX l:=by
 simp only[aX,RR]
 unfold da
 rw[u0]
 refine ⟨fun h=>?_,?_⟩
 ·subst h;simp (disch:=first|omega|assumption|(constructor<;>first|assumption|omega)|simp only[LN];omega) only[↓SB,S1]
  rfl
 ·simp (disch:=first|omega|assumption|(constructor<;>first|assumption|omega)|simp only[LN];omega) only[↓SB,S1,↓n7]
theorem kC(l:List Event)(hp:l.length≤1000000):WW ρ 1 ci aJ l:=by
 simp only[aJ,RR]
 unfold ci
 rw[u0]
 refine ⟨fun h=>?_,?_⟩
 ·subst h;simp (disch:=first|omega|assumption|(constructor<;>first|assumption|omega)|simp only[LN];omega) only[↓SB,S1]
  rfl
 ·simp (disch:=first|omega|assumption|(constructor<;>first|assumption|omega)|simp only[LN];omega) only[↓SB,S1,↓n7]
theorem lH(l:List Item)(hp:l.length≤1000000):WW ρ 1 cG aV l:=by
 simp only[aV,RR]
 unfold cG
 rw[u0]
 refine ⟨fun h=>?_,?_⟩
 ·subst h;simp (disch:=first|omega|assumption|(constructor<;>first|assumption|omega)|simp only[LN];omega) only[↓SB,S1]
  rfl
 ·simp (disch:=first|omega|assumption|(constructor<;>first|assumption|omega)|simp only[LN];omega) only[↓SB,S1,↓n7]
theorem sV(l:List Int)(hp:l.length≤1000000):WW ρ 1 gK bw l:=by
 simp only[bw,RR]
 unfold gK
 rw[u0]
 refine ⟨fun h=>?_,?_⟩
 ·subst h;simp (disch:=first|omega|assumption|(constructor<;>first|assumption|omega)|simp only[LN];omega) only[↓SB,S1]
  rfl
 ·simp (disch:=first|omega|assumption|(constructor<;>first|assumption|omega)|simp only[LN];omega) only[↓SB,S1,↓n7]
theorem Mi(x:Topic):WW ρ 16 ul kO x:=by
 simp only[kO,RR]
 unfold ul oh
 simp (disch:=first|omega|assumption|(constructor<;>first|assumption|omega)|simp only[LN];omega) only[↓SB,S1]
 refine ⟨fun h=>?_,fun h=>?_⟩ <;>simp[h]
def JG:=And.intro @aK (And.intro @gJ (And.intro @mm (@aE)))
theorem JH(x:Topic)(hp:cv x=false):WW ρ 16 su jr x:=by
 simp only[jr,RR]
 unfold su
 have hb:=CQ hp
 simp (disch:=first|omega|assumption|(constructor<;>first|assumption|omega)|simp only[LN];omega) only[↓SB,S1,↓JG]
theorem Mj(x:Event):WW ρ 6 um kP x:=by
 simp only[kP,RR]
 unfold um nJ df
 simp (disch:=first|omega|assumption|(constructor<;>first|assumption|omega)|simp only[LN];omega) only[↓SB,S1]
 refine ⟨fun h=>?_,fun h=>⟨fun h2=>?_,fun h2=>?_⟩⟩ <;>simp[*]
def Mk:=And.intro @aK (@LE)
theorem Ml(l:List Event)(limit:Int)(x:Event)(hp:l.length≤1000000)(hg:ag (iK (l,limit,x)).2.1):WW ρ 8 uq iK (l,limit,x):=by
 simp only[iK,RR] at hg ⊢
 unfold uq tq
 simp (disch:=first|omega|assumption|(constructor<;>first|assumption|omega)|simp only[LN];omega) only[↓SB,S1,↓Mk]
 refine ⟨fun h=>?_,fun h=>?_⟩ <;>simp[h]
theorem kD{l:List Event}{limit:Int}(h:bh l limit=true):2≤limit∧limit≤32∧(l.length:Int)≤limit∧l.all ec=true:=by
 simp only[bh,Bool.and_eq_true,decide_eq_true_eq] at h
 obtain ⟨⟨⟨h1,h2⟩,h3⟩,_⟩:=h
 have:=aZ h1
 exact ⟨this.1,this.2,h2,h3⟩
def kT:=And.intro @aK (And.intro @vS (And.intro @dc (@LD)))
theorem Mm(l:List Event)(limit:Int)(x:Event)(hg:ag (iJ (l,limit,x)).2.1):WW ρ 8 uo iJ (l,limit,x):=by
 simp only[iJ,RR] at hg ⊢
 unfold uo
 generalize hE:wE l limit x=q
 refine SUB.v1 (bb (!(bh l limit&&ec x))) ?_ ?_
 ·repeat' (first | apply And.intro | intro _ | simp (disch:=first|omega|assumption|(constructor<;>first|assumption|omega)|simp only[LN];omega) only[↓SB,S1,↓kT])
  all_goals simp_all
 unfold wE at hE
 cases h0:(bh l limit&&ec x)
 ·simp (disch:=first|omega|assumption|(constructor<;>first|assumption|omega)|simp only[LN];omega) only[↓SB,S1,↓kT]
  simp[h0] at hE;rw[←hE];rfl
 ·rw[if_pos h0] at hE
  simp only[Bool.and_eq_true] at h0
  have hb:=kD h0.1
  simp (disch:=first|omega|assumption|(constructor<;>first|assumption|omega)|simp only[LN];omega) only[↓SB,S1,↓kT]
  refine ⟨fun h1=>?_,fun h1=>?_⟩
  ·rw[if_pos h1] at hE;rw[←hE]
  ·rw[if_neg h1] at hE
   cases h2:df x
   ·simp (disch:=first|omega|assumption|(constructor<;>first|assumption|omega)|simp only[LN];omega) only[↓SB,S1,↓kT,h2]
    simp[h2] at hE;rw[←hE];rfl
   ·simp (disch:=first|omega|assumption|(constructor<;>first|assumption|omega)|simp only[LN];omega) only[↓SB,S1,↓kT,h2]
    rw[if_pos h2] at hE
    refine ⟨fun h3=>?_,fun h3=>?_⟩
    ·rw[if_pos h3] at hE;rw[←hE]
    ·rw[if_neg h3] at hE
     obtain ⟨k,hk⟩:=Int.eq_ofNat_of_zero_le (show 0≤limit-1 by omega)
     obtain ⟨y,hy⟩:=am (xs:=l) (i:=k) (by omega)
     rw[hk] at hE ⊢
     have hgd:l.getD k cx=y:=by simp[List.getD_eq_getElem?_getD,hy]
     simp only[Int.toNat_natCast,hgd] at hE
     simp (disch:=first|omega|assumption|(constructor<;>first|assumption|omega)|simp only[LN];omega) only[↓SB,S1,↓kT,ab hy,↓Pf,↓bk hy (j:=3) (v:=I (nJ x).last) (y:={ y with last:=(nJ x).last }) (by simp[Event.row_eq,List.set])]
     refine ⟨fun h4=>?_,fun h4=>⟨fun h5=>?_,fun h5=>?_⟩⟩
     ·rw[if_neg (fun h=>h4 h.1)] at hE;rw[←hE];rfl
     ·rw[if_neg (fun h=>h5 h.2)] at hE;rw[←hE];rfl
     ·rw[if_pos ⟨h4,h5⟩] at hE;rw[←hE]
theorem Mn(n:Node)(o:Int)(hg:ag (iL (n,o)).2.1):WW ρ 10 ur iL (n,o):=by
 simp only[iL,RR] at hg ⊢
 unfold ur oY
 simp only[ag,aR] at hg
 simp (disch:=first|omega|assumption|(constructor<;>first|assumption|omega)|simp only[LN];omega) only[↓SB,S1,↓fN]
 cases h:rng o 0 (n.peers.length-1)
 ·simp (disch:=first|omega|assumption|(constructor<;>first|assumption|omega)|simp only[LN];omega) only[↓SB,S1,↓fN,h]
  simp
 ·have hb:=aZ h
  obtain ⟨k,rfl⟩:=Int.eq_ofNat_of_zero_le hb.1
  obtain ⟨y,hy⟩:=am (xs:=n.peers) (i:=k) (by omega)
  simp (disch:=first|omega|assumption|(constructor<;>first|assumption|omega)|simp only[LN];omega) only[↓SB,S1,↓fN,h,ab hy]
  simp[List.getD_eq_getElem?_getD,hy]
theorem JI(l:List Peer)(n:Int)(hg:ag (gA (l,n)).2.1):WW ρ 2 sA gA (l,n):=by
 simp only[gA,RR] at hg ⊢
 unfold sA pI
 cases h:bB l
 ·simp (disch:=first|omega|assumption|(constructor<;>first|assumption|omega)|simp only[LN];omega) only[↓SB,S1,↓rM,h]
  simp
 ·simp (disch:=first|omega|assumption|(constructor<;>first|assumption|omega)|simp only[LN];omega) only[↓SB,S1,↓rM,h]
  refine ⟨fun h1=>?_,fun h1=>⟨fun h2=>?_,fun h2=>?_⟩⟩
  ·rw[if_neg (by omega)]
  ·rw[if_neg (by omega)]
  ·rw[if_pos (by omega)]
theorem SX{l:List Peer}{n:Int}(h:pI l n=0):bB l=true∧0≤n∧n<l.length:=by
 unfold pI at h
 split at h
 ·split at h
  ·rename_i h1 h2;exact ⟨h1,h2.1,h2.2⟩
  ·omega
 ·omega
theorem re{l:List Peer}(h:bB l=true):1≤l.length∧l.length≤8:=by
 simp only[bB,Bool.and_eq_true,decide_eq_true_eq] at h;exact h.1
theorem Mo(l:List Peer)(self:Int)(hg:ag (fV (l,self)).2.1):WW ρ 2 ut fV (l,self):=by
 simp only[fV,RR] at hg ⊢
 unfold ut
 generalize hE:iC l self=q
 simp (disch:=first|omega|assumption|(constructor<;>first|assumption|omega)|simp only[LN];omega) only[↓SB,S1,↓rP]
 refine ⟨fun h=>?_,fun h=>?_⟩
 ·rw[if_neg h];rfl
 obtain ⟨h1,h2,h3⟩:=SX h
 have hb:=re h1
 refine aw.rule (α:=Nat×List Int) (fun p=>[I p.1,L p.2]) (fun p=>p.1≤l.length∧p.2.length≤p.1∧p.2++kp self p.1 (l.drop p.1)=q) (fun p=>l.length-p.1) (0,[]) rfl ⟨by simp,by simp,by simpa[iC] using hE⟩ (fun _=>rfl) ?_
 rintro ⟨i,a⟩ ⟨hi,ha,hs⟩
 simp only at hi ha hs
 simp only[app]
 simp (disch:=first|omega|assumption|(constructor<;>first|assumption|omega)|simp only[LN];omega) only[↓SB,S1,↓rP]
 refine ⟨fun h4=>?_,fun h4=>?_⟩
 ·obtain ⟨x,hx⟩:=am h4
  rw[az hx,kp] at hs
  simp (disch:=first|omega|assumption|(constructor<;>first|assumption|omega)|simp only[LN];omega) only[↓SB,S1,↓rP,ab hx]
  refine ⟨fun h5=>⟨(i+1,a++[(i:Int)]),rfl,⟨by simp;omega,by simp;omega,?_⟩,by simp;omega⟩,fun h5=>⟨fun h6=>⟨fun h7=>⟨(i+1,a++[(i:Int)]),rfl,⟨by simp;omega,by simp;omega,?_⟩,by simp;omega⟩,fun h7=>⟨(i+1,a),rfl,⟨by simp;omega,by simp;omega,?_⟩,by simp;omega⟩⟩,fun h6=>⟨(i+1,a),rfl,⟨by simp;omega,by simp;omega,?_⟩,by simp;omega⟩⟩⟩
  ·rw[if_pos (.inl h5)] at hs;simpa using hs
  ·rw[if_pos (.inr ⟨h6,h7⟩)] at hs;simpa using hs
  ·rw[if_neg (show ¬((i:Int)=self∨(0<x.inc∧x.age<4)) by omega)] at hs;simpa using hs
  ·rw[if_neg (show ¬((i:Int)=self∨(0<x.inc∧x.age<4)) by omega)] at hs;simpa using hs
 ·rw[aq h4] at hs
  simp[kp] at hs;simp[h,hs]
theorem GI{self:Int}: ∀(l:List Peer) (i:Int),i≤self→self<i+l.length→self∈kp self i l
 | [],i,h0,h1=>by simp at h1;omega
 | p::r,i,h0,h1=>by
  rw[kp,List.mem_append]
  by_cases e:i=self
  ·left;rw[if_pos (.inl e),e];simp
  ·right;exact GI r (i+1) (by omega) (by simp at h1;omega)
theorem JJ{self:Int}: ∀(l:List Peer) (i p:Int),0≤i→p<i→i+l.length≤8→oe p (kp self i l)=true
 | [],_,_,_,_,_=>rfl
 | q::r,i,p,h0,h1,h2=>by
  simp only[List.length_cons] at h2
  rw[kp]
  split
  ·simp only[List.singleton_append,oe,Bool.and_eq_true,decide_eq_true_eq]
   exact ⟨⟨dr.2 (by omega),h1⟩,JJ r (i+1) i (by omega) (by omega) (by omega)⟩
  ·exact JJ r (i+1) p (by omega) (by omega) (by omega)
theorem CY{l:List Peer}{self:Int}(h:bB l=true)(h0:0≤self)(h1:self<l.length):AJ (iC l self) self=0:=by
 have hb:=re h
 unfold AJ
 rw[if_pos]
 simp only[Bool.and_eq_true]
 exact ⟨JJ l 0 (-1) (by omega) (by omega) (by omega),List.contains_iff_mem.2 (GI l 0 h0 (by omega))⟩
theorem RH(t:Int)(live:List Int)(self:Int): -1≤iG t live self:=by
 rcases Ot t live self with h | h
 ·omega
 ·have:=(jc h.1).2.1;omega
def ir:=And.intro @Co (And.intro @wI (@IM))
theorem FB(c:Config)(self:Int)(n:Node)(hg:ag (fh (c,self,n)).2.1):WW ρ 17 qt fh (c,self,n):=by
 simp only[fh,RR] at hg ⊢
 unfold qt ax
 cases hc:bx c
 ·simp (disch:=first|omega|assumption|(constructor<;>first|assumption|omega)|simp only[LN];omega) only[↓SB,S1,↓ir,hc]
 have hb:=dh hc
 simp (disch:=first|omega|assumption|(constructor<;>first|assumption|omega)|simp only[LN];omega) only[↓SB,S1,↓ir,hc]
 cases hs:rng self 0 (c.nodes-1)
 ·simp (disch:=first|omega|assumption|(constructor<;>first|assumption|omega)|simp only[LN];omega) only[↓SB,S1,↓ir,hs]
  simp
 ·simp (disch:=first|omega|assumption|(constructor<;>first|assumption|omega)|simp only[LN];omega) only[↓SB,S1,↓ir,hs]
  cases hu:n.up
  ·simp (disch:=first|omega|assumption|(constructor<;>first|assumption|omega)|simp only[LN];omega) only[↓SB,S1,↓ir]
   simp
  ·simp (disch:=first|omega|assumption|(constructor<;>first|assumption|omega)|simp only[LN];omega) only[↓SB,S1,↓ir]
   cases nd c self n<;>simp
def Mp:=And.intro @Ai (@Iy)
theorem Mq(self:Int)(n:Node)(t:Int)(hp:bB n.peers=true∧rng self 0 (n.peers.length-1)=true∧isT t=true)(hg:ag (iM (self,n,t)).2.1):WW ρ 11 uu iM (self,n,t):=by
 simp only[iM,RR] at hg ⊢
 unfold uu
 obtain ⟨h1,h2,h3⟩:=hp
 have hb:=re h1
 have hr:=aZ h2
 have hpl:pI n.peers self=0:=by unfold pI;rw[if_pos h1,if_pos (by omega)]
 have hc:=CY h1 hr.1 (by omega)
 have ha:u6 t (iC n.peers self) self=0:=by unfold u6;rw[if_pos hc,if_pos h3]
 simp (disch:=first|omega|assumption|(constructor<;>first|assumption|omega)|simp only[LN];omega) only[↓SB,S1,↓Mp,hpl,ha]
 simp
 refine ⟨fun h=>?_,fun h=>?_⟩
 ·have:=RH t (iC n.peers self) self;omega
 ·omega
def px:=And.intro @Aj (@LC)
theorem Mr(self:Int)(n:Node)(t:Int)(hp:bB n.peers=true∧rng self 0 (n.peers.length-1)=true∧isT t=true∧t<n.topics.length∧(bi n t).kids.length≤8∧(bi n t).parent≤8∧0≤(bi n t).parent)(hg:ag (iN (self,n,t)).2.1):WW ρ 11 uv iN (self,n,t):=by
 simp only[iN,RR] at hg ⊢
 unfold uv
 obtain ⟨h1,h2,h3,h4,h5,h6,h7⟩:=hp
 have ht:=jy.1 h3
 obtain ⟨k,rfl⟩:=Int.eq_ofNat_of_zero_le ht.1
 obtain ⟨y,hy⟩:=am (xs:=n.topics) (i:=k) (by omega)
 have hgd:bi n k=y:=by simp[bi,List.getD_eq_getElem?_getD,hy]
 simp only[qW,hgd] at h5 h6 h7 ⊢
 generalize hE:(y.kids.map Kid.node++[y.parent-1]++(if y.kids=[]∧oh y=false then [iG k (iC n.peers self) self] else []))=q
 simp (disch:=first|omega|assumption|(constructor<;>first|assumption|omega)|simp only[LN];omega) only[↓SB,S1,↓px,ab hy]
 refine aw.rule (α:=Nat) (fun i=>[I i,L ((y.kids.take i).map Kid.node)]) (fun i=>i≤y.kids.length) (fun i=>y.kids.length-i) 0 rfl (by omega) (fun _=>rfl) ?_
 intro i hl
 simp only[app]
 have hlt:((y.kids.take i).map Kid.node).length≤8:=by simp;omega
 simp (disch:=first|omega|assumption|(constructor<;>first|assumption|omega)|simp only[LN];omega) only[↓SB,S1,↓px]
 refine ⟨fun h=>?_,fun h=>?_⟩
 ·obtain ⟨x,hx⟩:=am h
  simp (disch:=first|omega|assumption|(constructor<;>first|assumption|omega)|simp only[LN];omega) only[↓SB,S1,↓px,ab hx]
  refine ⟨i+1,?_,by omega,by omega⟩
  show [PV.int .i64 _,_]=_
  rw[List.take_add_one,hx];simp
 ·have hi:i=y.kids.length:=by omega
  subst hi
  rw[List.take_length] at hlt ⊢
  have hl2:(y.kids.map Kid.node++[y.parent-1]).length≤9:=by simp;omega
  have hcn:=And.intro h1 (And.intro h2 h3)
  refine ⟨fun h8=>?_,fun h8=>?_⟩
  ·have h9:y.kids=[]:=List.eq_nil_of_length_eq_zero (by omega)
   refine ⟨fun h10=>?_,fun h10=>?_⟩
   ·rw[if_pos ⟨h9,h10⟩] at hE;rw[←hE]
    simp (disch:=first|omega|assumption|(constructor<;>first|assumption|omega)|simp only[LN];omega) only[↓SB,S1,↓px]
   ·rw[if_neg (by rw[h10];simp)] at hE;rw[←hE];simp
  ·rw[if_neg (by rintro ⟨h,_⟩;apply h8;rw[h];rfl)] at hE;rw[←hE];simp
end Go.Xt
end
section
set_option linter.unusedSimpArgs false
set_option linter.unusedVariables false
set_option maxRecDepth 100000
namespace Go.Xt
theorem nR{c:Config}{n:Node}{t count who:Int}(h:n.calls.any (bZ t count)=false):kd c n t count who=n:=by
 unfold kd;rw[if_neg (by simp[h])]
theorem rf{α:Type}{p:α→Bool}: ∀ {l:List α} {i:Nat} {x:α},(l.take i).any p=false→l[i]? =some x→p x=true→l.eraseP p=tp l i (i+1)∧l.any p=true
 | [],_,_,_,h,_=>by simp at h
 | a::r,0,x,_,h,hp=>by
  simp at h;subst h
  simp[List.eraseP_cons,hp,tp]
 | a::r,i+1,x,h1,h,hp=>by
  simp only[List.take_succ_cons,List.any_cons,Bool.or_eq_false_iff] at h1
  simp only[List.getElem?_cons_succ] at h
  obtain ⟨h2,h3⟩:=rf h1.2 h hp
  refine ⟨?_,by simp[h3]⟩
  rw[List.eraseP_cons,h1.1,h2];simp[tp]
theorem sW{k:PV→Prop}{a b d e f g h i j l m o p q:Int}:OP (.rows 16) [I a,I b,I d,I e,I f,I g,I h,I i,I j,I l,I m,I o,I p,I q,.list [],.list []] k=k (L [(⟨a,b,d,e,f,g,h,i,j,l,m,o,p,q,[],[]⟩:Msg)]):=vo (a_path:=[]) (a_todo:=[])
theorem yu{α:Type}{p:α→Bool}{l:List α}{i:Nat}{x:α}(h:(l.take i).any p=false)(hx:l[i]? =some x)(hp:p x=false):(l.take (i+1)).any p=false:=by
 rw[List.take_add_one,hx];simp[List.any_append,h,hp]
theorem vr{α:Type}{p:α→Bool}{l:List α}(h:l.any p=false):l.eraseP p=l :=
 List.eraseP_of_forall_not fun a ha hp=>by
  have:l.any p=true:=List.any_eq_true.2 ⟨a,ha,hp⟩
  rw[h] at this;cases this
theorem nS{c:Config}{n:Node}{t count who:Int}{k:Nat}{y:Topic}(h:n.calls.any (bZ t count)=true)(ht:t=k)(hy:n.topics[k]? =some y) :
  kd c n t count who={ n with calls:=n.calls.eraseP (bZ t count),topics:=n.topics.set k { y with queue:=tq y.queue c.queue (wG count who) } }:=by
 subst ht
 unfold kd
 rw[if_pos h]
 simp[Rf,List.getD_eq_getElem?_getD,hy]
structure DoesOk (self:Int) (n:Node) (t:Int):Prop where
 ht:isT t=true
 hl:t<n.topics.length
 hp:bB n.peers=true
 hs:rng self 0 (n.peers.length-1)=true
 hk:(bi n t).kids.length≤8
 h8:(bi n t).parent≤8
 h0:0≤(bi n t).parent
 hc:n.calls.length≤100
 hm:n.taken.length≤100
 hq:(bi n t).queue.length≤1000
end Go.Xt
end
section
set_option linter.unusedSimpArgs false
set_option linter.unusedVariables false
set_option maxRecDepth 100000
namespace Go.Xt
structure NOk (c:Config) (me:Int) (n:Node):Prop where
 inc:cnt n.inc=true
 pubs:rng n.pubs 0 1073741824=true
 asks:rng n.asks 0 40=true
 calls:bM c n.asks 0 n.calls=true
 cl:n.calls.length≤40
 pl:(n.peers.length:Int)=c.nodes
 tl:(n.topics.length:Int)=c.topics
 ml:(n.marks.length:Int)=c.nodes
 kl:n.taken.length≤64
 tops:bI c me 0 n.topics=true
 peers:bB n.peers=true
 marks:n.marks.all fE=true
 taken:n.taken.all (mL c)=true
theorem CZ{c:Config}{self:Int}{n:Node}:nd c self n=true↔NOk c self n:=by
 constructor
 ·intro h
  simp only[nd,Bool.and_eq_true,decide_eq_true_eq] at h
  obtain ⟨⟨⟨⟨⟨⟨⟨⟨⟨⟨⟨⟨a,b⟩,d⟩,e⟩,f⟩,g⟩,i⟩,j⟩,k⟩,l⟩,m⟩,o⟩,p⟩:=h
  exact ⟨a,b,d,e,f,g,i,j,k,l,m,o,p⟩
 ·rintro ⟨a,b,d,e,f,g,i,j,k,l,m,o,p⟩
  simp only[nd,Bool.and_eq_true,decide_eq_true_eq]
  exact ⟨⟨⟨⟨⟨⟨⟨⟨⟨⟨⟨⟨a,b⟩,d⟩,e⟩,f⟩,g⟩,i⟩,j⟩,k⟩,l⟩,m⟩,o⟩,p⟩
theorem ca{c:Config}{self:Int}{n:Node}(h:ax c self n=0):bx c=true∧rng self 0 (c.nodes-1)=true∧n.up=true∧NOk c self n:=by
 unfold ax at h
 split at h
 ·split at h
  ·split at h
   ·rename_i h1 h2 h3
    rw[Bool.and_eq_true] at h2
    exact ⟨h1,h2.1,h2.2,CZ.1 h3⟩
   ·omega
  ·omega
 ·omega
theorem Ox{c:Config}{self:Int}{n:Node}(h1:bx c=true)(h2:rng self 0 (c.nodes-1)=true)(h3:n.up=true)(h4:NOk c self n):ax c self n=0:=by
 unfold ax;rw[if_pos h1,if_pos (by simp[h2,h3]),if_pos (CZ.2 h4)]
theorem rg{c:Config}{self:Int}: ∀ {l:List Topic} {t:Int} {k:Nat} {x:Topic},bI c self t l=true→l[k]? =some x→aM c (t+k) self x=true
 | [],_,_,_,_,h=>by simp at h
 | y::r,t,0,x,h,hx=>by
  rw[bI,Bool.and_eq_true] at h
  simp at hx;subst hx;simpa using h.1
 | y::r,t,k+1,x,h,hx=>by
  rw[bI,Bool.and_eq_true] at h
  have:=rg (k:=k) (x:=x) h.2 (by simpa using hx)
  rw[show t+1+(k:Int)=t+((k+1:Nat):Int) by omega] at this;exact this
theorem D0{c:Config}{self:Int}: ∀ {l:List Topic} {t:Int} {k:Nat} {x:Topic},bI c self t l=true→aM c (t+k) self x=true→bI c self t (l.set k x)=true
 | [],_,_,_,_,h=>rfl
 | y::r,t,0,x,h,hx=>by
  rw[bI,Bool.and_eq_true] at h
  rw[List.set_cons_zero,bI,Bool.and_eq_true]
  exact ⟨by simpa using hx,h.2⟩
 | y::r,t,k+1,x,h,hx=>by
  rw[bI,Bool.and_eq_true] at h
  rw[List.set_cons_succ,bI,Bool.and_eq_true]
  exact ⟨h.1,D0 h.2 (by rw[show t+1+(k:Int)=t+((k+1:Nat):Int) by omega];exact hx)⟩
theorem SY{t n c:Int}{xs:List Int}(h:chk t n xs c=0):(xs.length:Int)≤c:=by
 unfold chk at h
 split at h
 ·split at h
  ·omega
  ·omega
 ·omega
structure TBd (c:Config) (x:Topic):Prop where
 path:x.path.length≤8
 kids:x.kids.length≤4
 kept:x.stream.kept.length≤16
 ahead:x.stream.ahead.length≤16
 queue:x.queue.length≤32
theorem Ms{c:Config}{t self:Int}{x:Topic}(hc:bx c=true)(h:aM c t self x=true):TBd c x∧0≤x.parent∧x.parent≤8:=by
 have hb:=dh hc
 have hf:=Oj hc h
 simp only[Re,Bool.or_eq_false_iff,decide_eq_false_iff_not] at hf
 obtain ⟨⟨⟨f1,f2⟩,f3⟩,f4⟩:=hf
 simp only[aM,Bool.and_eq_true,decide_eq_true_eq] at h
 have hp:=SY h.1.1.2
 have hl:=Jo h.1.1.1.1.1.1.1.2
 exact ⟨⟨by omega,by omega,by omega,by omega,by omega⟩,hl⟩
theorem py{c:Config}{t self:Int}{x:Topic}(hc:bx c=true)(h:aM c t self x=true):cv x=false:=by
 obtain ⟨⟨a,b,d,e,f⟩,_⟩:=Ms hc h
 simp[cv,xW];omega
theorem D1{c:Config}{self:Int}{n:Node}(hc:bx c=true)(h:NOk c self n){k:Nat}{x:Topic}(hx:n.topics[k]? =some x):cv x=false :=
 py hc (rg h.tops hx)
theorem Pn{c:Config}{self:Int}{n m:Node}{t:Int}(hc:bx c=true)(hs:rng self 0 (c.nodes-1)=true)(h:NOk c self n)(ht:rng t 0 (c.topics-1)=true)(e1:m.topics=n.topics)(e2:m.peers=n.peers)(e3:m.calls.length≤100)(e4:m.taken.length≤100):DoesOk self m t:=by
 have hb:=dh hc
 have h1:=aZ ht;have h2:=aZ hs
 obtain ⟨k,rfl⟩:=Int.eq_ofNat_of_zero_le h1.1
 have htl:=h.tl
 obtain ⟨x,hx⟩:=am (xs:=n.topics) (i:=k) (by omega)
 have hgd:bi m k=x:=by simp[bi,e1,List.getD_eq_getElem?_getD,hx]
 obtain ⟨⟨a,b,d,e,f⟩,g,g2⟩:=Ms hc (rg h.tops hx)
 refine ⟨jy.2 (by omega),by rw[e1];omega,by rw[e2];exact h.peers,by rw[e2,h.pl];exact hs,by rw[hgd];omega,by rw[hgd];omega,by rw[hgd];omega,e3,e4,by rw[hgd];omega⟩
theorem JK{a b:Int}{k:PV→Prop}(h0:0≤b)(h1:b≤62):OP (.bin .shr) [I a,I b] k=k (I (a / 2 ^ b.toNat)):=aL (by
 have h2: ¬b<0:=by omega
 have h3:min b.toNat 64=b.toNat:=by omega
 simp[ev,lN,h2,IntKind.bits,h3]
 rw[Int.fdiv_eq_ediv_of_nonneg]
 exact Int.le_of_lt (Int.pow_pos (by decide)))
theorem zB(m:Nat):BitVec.ofInt 64 (m:Int)=BitVec.ofNat 64 m:=by simp
theorem Po{a:Int}{k:PV→Prop}(h0:0≤a):OP (.bin .and) [I a,I 1] k=k (I (a % 2)):=aL (by
 obtain ⟨m,rfl⟩:=Int.eq_ofNat_of_zero_le h0
 have e:(BitVec.ofInt 64 (m:Int) &&& BitVec.ofInt 64 (1:Int)).toNat=m % 2:=by
  rw[BitVec.toNat_and,zB,show BitVec.ofInt 64 (1:Int)=BitVec.ofNat 64 1 from rfl,BitVec.toNat_ofNat,BitVec.toNat_ofNat,show 1 % 2 ^ 64=1 from rfl,Nat.and_one_is_mod]
  omega
 show some (PV.int .i64 (IntKind.i64.wrap ((BitVec.ofInt 64 (m:Int) &&& BitVec.ofInt 64 (1:Int)).toNat:Int)))=_
 rw[e,wr (by omega) (by omega)];simp)
theorem RI{m b:Nat}(h:m / 2 ^ b % 2=0):m ||| 2 ^ b=m+2 ^ b:=by
 have e1:m=2 ^ (b+1)*(m / 2 ^ (b+1))+m % 2 ^ b:=by
  have h1:=Nat.div_add_mod m (2 ^ (b+1))
  have h2:m % 2 ^ (b+1)=m % 2 ^ b:=by
   rw[Nat.mod_pow_succ,h];omega
  rw[h2] at h1;exact h1.symm
 have h3:m % 2 ^ b<2 ^ b:=Nat.mod_lt _ (Nat.two_pow_pos b)
 have h4:2 ^ b+m % 2 ^ b<2 ^ (b+1):=by rw[Nat.pow_succ];omega
 have e2:2 ^ b+m % 2 ^ b=2 ^ b ||| m % 2 ^ b:=by
  have:=Nat.two_pow_add_eq_or_of_lt h3 1
  rwa [Nat.mul_one] at this
 have e3:=Nat.two_pow_add_eq_or_of_lt h4 (m / 2 ^ (b+1))
 have e4:=Nat.two_pow_add_eq_or_of_lt (show m % 2 ^ b<2 ^ (b+1) by omega) (m / 2 ^ (b+1))
 rw[←e1] at e4
 have e5:m ||| 2 ^ b=2 ^ (b+1)*(m / 2 ^ (b+1)) ||| (2 ^ b+m % 2 ^ b):=by
  rw[e2]
  conv=>lhs;rw[e4]
  rw[Nat.or_assoc,Nat.or_comm (m % 2 ^ b)]
 rw[e5,←e3];omega
theorem GJ{a b:Int}{k:PV→Prop}(h0:0≤a)(h1:a<4611686018427387904)(h2:0≤b)(h3:b≤61)(h:a / 2 ^ b.toNat % 2=0):OP (.bin .or) [I a,I (2 ^ b.toNat)] k=k (I (a+2 ^ b.toNat)):=aL (by
 obtain ⟨m,rfl⟩:=Int.eq_ofNat_of_zero_le h0
 obtain ⟨d,rfl⟩:=Int.eq_ofNat_of_zero_le h2
 simp only[Int.toNat_natCast] at h ⊢
 have e0:((2:Int) ^ d)=((2 ^ d:Nat):Int):=(Int.natCast_pow 2 d).symm
 have h4:m / 2 ^ d % 2=0:=by
  rw[e0] at h
  have:((m / 2 ^ d % 2:Nat):Int)=0:=by rw[Int.natCast_emod,Int.natCast_ediv];exact h
  omega
 have h5:2 ^ d≤2305843009213693952:=Nat.pow_le_pow_right (n:=2) (show 0<2 by decide) (show d≤61 by omega)
 have e:(BitVec.ofInt 64 (m:Int) ||| BitVec.ofInt 64 ((2 ^ d:Nat):Int)).toNat=m+2 ^ d:=by
  rw[BitVec.toNat_or,zB,zB,BitVec.toNat_ofNat,BitVec.toNat_ofNat,Nat.mod_eq_of_lt (by omega),Nat.mod_eq_of_lt (by omega),RI h4]
 rw[e0]
 show some (PV.int .i64 (IntKind.i64.wrap ((BitVec.ofInt 64 (m:Int) ||| BitVec.ofInt 64 ((2 ^ d:Nat):Int)).toNat:Int)))=_
 rw[e,wr (by omega) (by omega)];simp)
end Go.Xt
end
section
set_option linter.unusedSimpArgs false
set_option linter.unusedVariables false
set_option maxRecDepth 100000
namespace Go.Xt
set_option linter.defProp false
theorem Mt{α:Type}{l:List α}{k:Nat}{x:α}(h:l[k]? =some x):l.set k x=l:=by
 obtain ⟨h1,h2⟩:=List.getElem?_eq_some_iff.1 h
 rw[←h2];exact List.set_getElem_self h1
theorem Pp{n:Node}{k:Nat}{y:Mark}(h:n.marks.all fE=true)(hy:n.marks[k]? =some y):0≤y.met∧y.met≤2199023255551:=by
 rw[List.all_eq_true] at h
 have:=h y (List.mem_of_getElem? hy)
 simp only[fE,Bool.and_eq_true] at this
 exact aZ this.2
def ao:=And.intro @lv (And.intro @cn (And.intro @fN (And.intro @rO (And.intro @eA (And.intro @eB (And.intro @eC (And.intro @dW (And.intro @Ah (And.intro @gJ (And.intro @Ag (And.intro @bT (And.intro @Al (@kY)))))))))))))
theorem JL(c:Config)(self:Int)(n:Node)(t:Int)(value:Int)(hg:ag (js (c,self,n,t,value)).2.1):WW ρ 19 sB js (c,self,n,t,value):=by
 simp only[js,RR] at hg ⊢
 unfold sB
 simp only[ag,aR] at hg
 generalize hE:aN c self n t value=q
 unfold aN at hE
 simp (disch:=first|omega|assumption|(constructor<;>first|assumption|omega)|simp only[LN];omega) only[↓SB,S1,↓ao]
 refine ⟨fun hw=>?_,fun hw=>?_⟩
 ·rw[if_neg hw] at hE;rw[←hE];rfl
 rw[if_pos hw] at hE
 obtain ⟨hc,hsr,hu,H⟩:=ca hw
 have hb:=dh hc
 have hsb:=aZ hsr
 refine SUB.v1 (bb (!(rng t 0 (c.topics-1)&&val value))) ?_ ?_
 ·repeat' (first | apply And.intro | intro _ | simp (disch:=first|omega|assumption|(constructor<;>first|assumption|omega)|simp only[LN];omega) only[↓SB,S1,↓ao])
  all_goals simp[*]
 cases htv:(rng t 0 (c.topics-1)&&val value)
 ·simp (disch:=first|omega|assumption|(constructor<;>first|assumption|omega)|simp only[LN];omega) only[↓SB,S1,↓ao]
  rw[htv,if_neg (by simp)] at hE;rw[←hE];rfl
 rw[if_pos htv] at hE
 rw[Bool.and_eq_true] at htv
 simp (disch:=first|omega|assumption|(constructor<;>first|assumption|omega)|simp only[LN];omega) only[↓SB,S1,↓ao]
 refine ⟨fun ha=>?_,fun ha=>?_⟩
 ·rw[if_neg (by omega)] at hE;rw[←hE];rfl
 rw[if_pos (by omega)] at hE
 have hab:=aZ H.asks
 have hpl:=H.pl;have hml:=H.ml;have hkl:=H.kl;have hcl:=H.cl
 have htl:=H.tl
 refine SUB.val [L n.taken,L n.marks,L n.calls,L n.peers,L n.topics] rfl ?_ ?_
 ·refine aw.rule (α:=Nat) (fun i=>[I i,L (n.topics.take i)]) (fun i=>i≤n.topics.length) (fun i=>n.topics.length-i) 0 rfl (by omega) (fun _=>rfl) ?_
  intro i hl
  simp only[app]
  simp (disch:=first|omega|assumption|(constructor<;>first|assumption|omega)|simp only[LN];omega) only[↓SB,S1,↓ao]
  refine ⟨fun hcc=>?_,fun hcc=>?_⟩
  ·obtain ⟨x,hx⟩:=am hcc
   have hx9:=D1 hc H hx
   have hlt:(n.topics.take i).length=i:=by simp;omega
   simp (disch:=first|omega|assumption|(constructor<;>first|assumption|omega)|simp only[LN];omega) only[↓SB,S1,↓ao,ab hx]
   exact ⟨i+1,by simp[yn hx],by omega,by omega⟩
  rw[List.take_of_length_le (by omega)]
 simp only[app]
 simp (disch:=first|omega|assumption|(constructor<;>first|assumption|omega)|simp only[LN];omega) only[↓SB,S1,↓ao]
 rw[show L [(⟨n.asks+1,t,0⟩:Kid)]=L [(⟨n.asks+1,t,0⟩:Call)] from rfl]
 simp (disch:=first|omega|assumption|(constructor<;>first|assumption|omega)|simp only[LN];omega) only[↓SB,S1,↓ao]
 obtain ⟨s,hk⟩:=Int.eq_ofNat_of_zero_le hsb.1
 subst hk
 obtain ⟨mk,hmk⟩:=am (xs:=n.marks) (i:=s) (by omega)
 have hmd:n.marks.getD s Af=mk:=by simp[List.getD_eq_getElem?_getD,hmk]
 have hmb:=Pp H.marks hmk
 have hml2:jB n.marks s n.inc (n.asks+1)=if meets n.marks s n.inc (n.asks+1)=true then n.marks.set s { kG mk n.inc with met:=(kG mk n.inc).met+2 ^ (n.asks+1).toNat } else n.marks:=by
  unfold jB;rw[Int.toNat_natCast,hmd]
 have hme:meets n.marks s n.inc (n.asks+1)=(decide (mk.inc≤n.inc)&& !pJ (kG mk n.inc) (n.asks+1)):=by unfold meets;rw[Int.toNat_natCast,hmd]
 refine SUB.v2 (bb (meets n.marks s n.inc (n.asks+1))) (L (jB n.marks s n.inc (n.asks+1))) ?_ ?_
 ·rw[hml2,hme]
  simp (disch:=first|omega|assumption|(constructor<;>first|assumption|omega)|simp only[LN];omega) only[↓SB,S1,↓ao,ab hmk]
  refine ⟨fun hgt=>?_,fun hle=>⟨fun hlt=>?_,fun hge=>?_⟩⟩
  ·have e:decide (mk.inc≤n.inc)=false:=by simp;omega
   simp[e]
  ·have e:kG mk n.inc=⟨n.inc,0,0⟩:=by unfold kG;rw[if_pos hlt]
   have hsz:=(List.getElem?_eq_some_iff.1 hmk).1
   have h1:(n.marks.set s ⟨n.inc,mk.pubs,mk.met⟩)[s]? =some ⟨n.inc,mk.pubs,mk.met⟩:=by simp[hsz]
   have h2:((n.marks.set s ⟨n.inc,mk.pubs,mk.met⟩).set s ⟨n.inc,0,mk.met⟩)[s]? =some ⟨n.inc,0,mk.met⟩:=by simp[hsz]
   have h3:(n.marks.set s ⟨n.inc,0,0⟩)[s]? =some ⟨n.inc,0,0⟩:=by simp[hsz]
   rw[bk hmk (y:=⟨n.inc,mk.pubs,mk.met⟩) rfl,bk h1 (y:=⟨n.inc,0,mk.met⟩) rfl,bk h2 (y:=⟨n.inc,0,0⟩) rfl,List.set_set,List.set_set,e]
   simp (disch:=first|omega|assumption|(constructor<;>first|assumption|omega)|simp only[LN];omega) only[↓SB,S1,↓ao,ab h3]
   rw[JK (by omega) (by omega),Po (Int.ediv_nonneg (by decide) (Int.le_of_lt (Int.pow_pos (by decide))))]
   simp (disch:=first|omega|assumption|(constructor<;>first|assumption|omega)|simp only[LN];omega) only[↓SB,S1,↓ao]
   have hz:(0:Int) / 2 ^ (n.asks+1).toNat % 2=0:=by simp
   refine ⟨fun hm=>by rw[hz] at hm;omega,fun hm=>?_⟩
   rw[zy (by omega) (by omega),GJ (by omega) (by omega) (by omega) (by omega) hz,bk h3 (y:=⟨n.inc,0,0+2 ^ (n.asks+1).toNat⟩) rfl,List.set_set]
   have e5:decide (mk.inc≤n.inc)=true:=by simp;omega
   simp[e5,pJ]
  ·have e:kG mk n.inc=mk:=by unfold kG;rw[if_neg hge]
   rw[JK (by omega) (by omega),Po (Int.ediv_nonneg hmb.1 (Int.le_of_lt (Int.pow_pos (by decide)))),e]
   simp (disch:=first|omega|assumption|(constructor<;>first|assumption|omega)|simp only[LN];omega) only[↓SB,S1,↓ao]
   have e5:decide (mk.inc≤n.inc)=true:=by simp;omega
   refine ⟨fun hm=>by simp[e5,pJ,hm],fun hm=>?_⟩
   have h0:mk.met / 2 ^ (n.asks+1).toNat % 2=0:=by omega
   rw[zy (by omega) (by omega),GJ hmb.1 (by omega) (by omega) (by omega) h0,bk hmk (y:={ mk with met:=mk.met+2 ^ (n.asks+1).toNat }) rfl]
   simp[e5,pJ,hm]
 have hcl2:(n.calls++[(⟨n.asks+1,t,0⟩:Call)]).length≤100:=by simp;omega
 have HD:DoesOk (s:Int) (⟨n.up,n.inc,n.peers,n.topics,n.calls++[⟨n.asks+1,t,0⟩],n.pubs,n.asks+1,jB n.marks s n.inc (n.asks+1),n.taken⟩:Node) t:=Pn hc hsr H htv.1 rfl rfl hcl2 (by show n.taken.length≤100;omega)
 dsimp only at hE
 generalize n.calls++[(⟨n.asks+1,t,0⟩:Call)]=calls at hE HD ⊢
 generalize hcnt:n.asks+1=cnt at hE HD ⊢
 generalize jB n.marks s n.inc cnt=marks at hE HD ⊢
 obtain ⟨h1,h2,h3,h4,h5,h6,h7,h8,h9,h10⟩:=HD
 have hbt:=jy.1 h1
 have hs:=aZ h4
 obtain ⟨k,rfl⟩:=Int.eq_ofNat_of_zero_le hbt.1
 obtain ⟨y,hy⟩:=am (xs:=n.topics) (i:=k) (by omega)
 have hgd: ∀(a:Bool) (b:Int) (d:List Peer) (e:List Call) (f g:Int) (i:List Mark) (j:List Mark2),bi (⟨a,b,d,n.topics,e,f,g,i,j⟩:Node) k=y:=by intros;simp[bi,List.getD_eq_getElem?_getD,hy]
 have hbc:(calls.length:Int)≤100:=by have:=h8;dsimp only at this;omega
 rw[hgd] at h5 h6 h7 h10
 dsimp only at h2 h3 h4 h9
 generalize hr:iv c s (⟨n.up,n.inc,n.peers,n.topics,calls,n.pubs,cnt,marks,n.taken⟩:Node) { lL with topic:=(k:Int),node:=(s:Int),inc:=n.inc,count:=cnt,value:=value }=r at hE
 have hQ:[bb r.1.up,I r.1.inc,L r.1.peers,L r.1.topics,L r.1.calls,I r.1.pubs,I r.1.asks,L r.1.marks,L r.1.taken,L r.2,I cnt,I 0]=[bb q.fst.up,I q.fst.inc,L q.fst.peers,L q.fst.topics,L q.fst.calls,I q.fst.pubs,I q.fst.asks,L q.fst.marks,L q.fst.taken,L q.snd.fst,I q.snd.snd.fst,I q.snd.snd.snd]:=by rw[←hE]
 clear hE
 generalize [bb q.fst.up,I q.fst.inc,L q.fst.peers,L q.fst.topics,L q.fst.calls,I q.fst.pubs,I q.fst.asks,L q.fst.marks,L q.fst.taken,L q.snd.fst,I q.snd.snd.fst,I q.snd.snd.snd]=z at hQ ⊢
 simp only[iv,lL,hgd,List.nil_append] at hr
 cases hsub:y.sub
 ·simp (disch:=first|omega|assumption|(constructor<;>first|assumption|omega)|simp only[LN];omega) only[↓SB,S1,↓ao,ab hy,hsub]
  simp only[hsub,Bool.false_eq_true,if_false] at hr
  refine SUB.v3 (L ([]:List Int)) (L [(s:Int)]) (L [(s:Int)]) ?_ ?_
  ·simp (disch:=first|omega|assumption|(constructor<;>first|assumption|omega)|simp only[LN];omega) only[↓SB,S1,↓ao,List.nil_append]
  have hcn:bB (⟨n.up,n.inc,n.peers,n.topics,calls,n.pubs,cnt,marks,n.taken⟩:Node).peers=true∧rng (s:Int) 0 (n.peers.length-1)=true∧isT (k:Int)=true∧(k:Int)<n.topics.length∧(bi (⟨n.up,n.inc,n.peers,n.topics,calls,n.pubs,cnt,marks,n.taken⟩:Node) k).kids.length≤8∧(bi (⟨n.up,n.inc,n.peers,n.topics,calls,n.pubs,cnt,marks,n.taken⟩:Node) k).parent≤8∧0≤(bi (⟨n.up,n.inc,n.peers,n.topics,calls,n.pubs,cnt,marks,n.taken⟩:Node) k).parent :=
   ⟨h3,h4,h1,h2,by rw[hgd];exact h5,by rw[hgd];exact h6,by rw[hgd];exact h7⟩
  have hnl:(qW s (⟨n.up,n.inc,n.peers,n.topics,calls,n.pubs,cnt,marks,n.taken⟩:Node) k).length≤10:=by
   simp only[qW,hgd,List.length_append,List.length_map,List.length_singleton]
   split<;>simp<;>omega
  rw[Al hcn];dsimp only
  generalize hNL:qW s (⟨n.up,n.inc,n.peers,n.topics,calls,n.pubs,cnt,marks,n.taken⟩:Node) k=nl at hnl hr ⊢
  simp (disch:=first|omega|assumption|(constructor<;>first|assumption|omega)|simp only[LN];omega) only[↓SB,S1,↓ao]
  generalize hT:cO (⟨n.up,n.inc,n.peers,n.topics,calls,n.pubs,cnt,marks,n.taken⟩:Node) [(s:Int)] [] nl=todo at hr
  refine aw.rule (α:=Nat×List Int) (fun p=>[I p.1,L p.2]) (fun p=>p.1≤nl.length∧p.2.length≤p.1∧cO (⟨n.up,n.inc,n.peers,n.topics,calls,n.pubs,cnt,marks,n.taken⟩:Node) [(s:Int)] p.2 (nl.drop p.1)=todo) (fun p=>nl.length-p.1) (0,[]) rfl ⟨by simp,by simp,by simpa using hT⟩ (fun _=>rfl) ?_
  rintro ⟨i,a⟩ ⟨hi,ha,hs2⟩
  simp only at hi ha hs2
  simp only[app]
  simp (disch:=first|omega|assumption|(constructor<;>first|assumption|omega)|simp only[LN];omega) only[↓SB,S1,↓ao]
  refine ⟨fun h=>?_,fun h=>?_⟩
  ·obtain ⟨x,hx⟩:=am h
   rw[az hx,cO] at hs2
   simp (disch:=first|omega|assumption|(constructor<;>first|assumption|omega)|simp only[LN];omega) only[↓SB,S1,↓ao,ab hx]
   refine ⟨fun e1=>⟨fun e2=>⟨fun e3=>⟨(i+1,a++[x]),rfl,⟨by simp;omega,by simp;omega,?_⟩,by simp;omega⟩,fun e3=>⟨(i+1,a),rfl,⟨by simp;omega,by simp;omega,?_⟩,by simp;omega⟩⟩,fun e2=>⟨(i+1,a),rfl,⟨by simp;omega,by simp;omega,?_⟩,by simp;omega⟩⟩,fun e1=>⟨(i+1,a),rfl,⟨by simp;omega,by simp;omega,?_⟩,by simp;omega⟩⟩
   ·simp only[e1,e2,e3,Bool.not_false,Bool.and_self,if_true] at hs2;exact hs2
   ·simp only[e1,e2,e3,Bool.not_false,Bool.not_true,Bool.and_false,Bool.false_eq_true,if_false] at hs2;exact hs2
   ·simp only[e1,e2,Bool.not_false,Bool.not_true,Bool.and_false,Bool.false_and,Bool.false_eq_true,if_false] at hs2;exact hs2
   ·simp only[e1,Bool.false_and,Bool.false_eq_true,if_false] at hs2;exact hs2
  rw[aq h,cO] at hs2
  subst hs2
  unfold goN at hr
  refine SUB.v1 (bb (decide (a=[]))) ?_ ?_
  ·simp (disch:=first|omega|assumption|(constructor<;>first|assumption|omega)|simp only[LN];omega) only[↓SB,S1,↓ao]
   refine ⟨fun h=>?_,fun h=>?_⟩
   ·have:a=[]:=List.eq_nil_of_length_eq_zero (by omega)
    simp[this]
   ·have:a≠[]:=by intro h';subst h';simp at h
    simp[this]
  by_cases ha0:a=[]
  ·rw[if_pos (.inl ha0)] at hr
   unfold lP at hr
   rw[if_pos rfl] at hr
   dsimp only at hr
   subst ha0
   simp (disch:=first|omega|assumption|(constructor<;>first|assumption|omega)|simp only[LN];omega) only[↓SB,S1,↓ao]
   refine SUB.v3 (bb (calls.any (bZ k cnt))) (bb (!calls.any (bZ k cnt))) (L (calls.eraseP (bZ k cnt))) ?_ ?_
   ·simp (disch:=first|omega|assumption|(constructor<;>first|assumption|omega)|simp only[LN];omega) only[↓SB,S1,↓ao]
    refine aw.rule (α:=Nat) (fun i=>[I i]) (fun i=>i≤calls.length∧(calls.take i).any (bZ k cnt)=false) (fun i=>calls.length-i) 0 rfl ⟨by omega,by simp⟩ (fun _=>rfl) ?_
    rintro i ⟨hi3,hs3⟩
    simp only[app]
    simp (disch:=first|omega|assumption|(constructor<;>first|assumption|omega)|simp only[LN];omega) only[↓SB,S1,↓ao]
    refine ⟨fun h=>?_,fun h=>⟨fun _=>?_,fun h9=>absurd (show (-1:Int)<0 by omega) h9⟩⟩
    ·obtain ⟨x,hx⟩:=am h
     simp (disch:=first|omega|assumption|(constructor<;>first|assumption|omega)|simp only[LN];omega) only[↓SB,S1,↓ao,ab hx]
     refine SUB.v1 (bb (bZ k cnt x)) ?_ ?_
     ·unfold bZ;repeat' (first | apply And.intro | intro _ | simp (disch:=first|omega|assumption|(constructor<;>first|assumption|omega)|simp only[LN];omega) only[↓SB,S1,↓ao])
      all_goals simp[*]
     cases hcx:bZ k cnt x
     ·simp (disch:=first|omega|assumption|(constructor<;>first|assumption|omega)|simp only[LN];omega) only[↓SB,S1,↓ao]
      exact ⟨i+1,rfl,⟨by omega,yu hs3 hx hcx⟩,by omega⟩
     ·have hpre:(0:Int)≤(i:Int)∧(i:Int)≤(i:Int)+1∧(i:Int)+1≤calls.length∧calls.length<4611686018427387904:=⟨by omega,by omega,by omega,by omega⟩
      obtain ⟨e5,e6⟩:=rf hs3 hx hcx
      simp (disch:=first|omega|assumption|(constructor<;>first|assumption|omega)|simp only[LN];omega) only[↓SB,S1,↓ao]
      refine ⟨fun h=>by omega,fun _=>?_⟩
      rw[e5,e6];rfl
    ·have hi4:i=calls.length:=by omega
     subst hi4
     rw[List.take_length] at hs3
     rw[hs3,vr hs3];rfl
   simp (disch:=first|omega|assumption|(constructor<;>first|assumption|omega)|simp only[LN];omega) only[↓SB,S1,↓ao]
   cases hany:calls.any (bZ k cnt)
   ·rw[nR (n:=⟨n.up,n.inc,n.peers,n.topics,calls,n.pubs,cnt,marks,n.taken⟩) hany] at hr
    rw[vr hany]
    simp (disch:=first|omega|assumption|(constructor<;>first|assumption|omega)|simp only[LN];omega) only[↓SB,S1,↓ao]
    subst hr
    exact hQ
   ·rw[nS (n:=⟨n.up,n.inc,n.peers,n.topics,calls,n.pubs,cnt,marks,n.taken⟩) hany rfl hy] at hr
    simp (disch:=first|omega|assumption|(constructor<;>first|assumption|omega)|simp only[LN];omega) only[↓SB,S1,↓ao,ab hy,↓bk hy (j:=15) (v:=L (tq y.queue c.queue ⟨4,0,0,0,0,cnt⟩)) (y:={ y with queue:=tq y.queue c.queue ⟨4,0,0,0,0,cnt⟩ }) rfl]
    rw[show wG cnt (-1)=⟨4,0,0,0,0,cnt⟩ from rfl] at hr
    subst hr
    refine ⟨fun h=>by omega,fun _=>?_⟩
    exact hQ
  ·rw[if_neg (by rintro (h | h);exact ha0 h;simp at h)] at hr
   have hpos:0<a.length:=List.length_pos_iff.2 ha0
   obtain ⟨j,hj⟩: ∃j,a.length=j+1:=⟨a.length-1,by omega⟩
   have e1:((a.length:Int)-1)=(j:Nat):=by omega
   obtain ⟨w,hw2⟩:=am (xs:=a) (i:=j) (by omega)
   have e2:a.take j=a.dropLast:=by rw[List.dropLast_eq_take];congr 1;omega
   have e3:a.getLastD 0=w:=by
    rw[List.getLastD_eq_getLast?,List.getLast?_eq_getElem?,hj,Nat.add_sub_cancel,hw2];rfl
   have e4:(a.take j).length≤1000000:=by simp;omega
   simp (disch:=first|omega|assumption|(constructor<;>first|assumption|omega)|simp only[LN];omega) only[↓SB,S1,↓ao,ha0,e1,ab hw2,Int.toNat_natCast,↓vo]
   rw[e3] at hr
   rw[e2]
   subst hr
   exact hQ
 ·simp only[hsub,if_true] at hr
  unfold lP at hr
  rw[if_pos rfl] at hr
  dsimp only at hr
  have e1:((n.taken++[(⟨s,n.inc,cnt,k,value⟩:Mark2)]).length:Int)≤101:=by simp;omega
  have e2:(max (((n.taken++[(⟨s,n.inc,cnt,k,value⟩:Mark2)]).length:Int)-64) 0).toNat=(n.taken++[(⟨s,n.inc,cnt,k,value⟩:Mark2)]).length-64:=by omega
  have e3:(ol (n.taken++[(⟨s,n.inc,cnt,k,value⟩:Mark2)]) 64).length≤1000000:=by unfold ol;simp;omega
  simp (disch:=first|omega|assumption|(constructor<;>first|assumption|omega)|simp only[LN];omega) only[↓SB,S1,↓ao,ab hy,hsub]
  rw[e2]
  show CALL _ _ [L (ol _ 64)] _ _
  simp (disch:=first|omega|assumption|(constructor<;>first|assumption|omega)|simp only[LN];omega) only[↓SB,S1,↓ao]
  refine SUB.v3 (bb (calls.any (bZ k cnt))) (bb (!calls.any (bZ k cnt))) (L (calls.eraseP (bZ k cnt))) ?_ ?_
  ·simp (disch:=first|omega|assumption|(constructor<;>first|assumption|omega)|simp only[LN];omega) only[↓SB,S1,↓ao]
   refine aw.rule (α:=Nat) (fun i=>[I i]) (fun i=>i≤calls.length∧(calls.take i).any (bZ k cnt)=false) (fun i=>calls.length-i) 0 rfl ⟨by omega,by simp⟩ (fun _=>rfl) ?_
   rintro i ⟨hi3,hs3⟩
   simp only[app]
   simp (disch:=first|omega|assumption|(constructor<;>first|assumption|omega)|simp only[LN];omega) only[↓SB,S1,↓ao]
   refine ⟨fun h=>?_,fun h=>⟨fun _=>?_,fun h9=>absurd (show (-1:Int)<0 by omega) h9⟩⟩
   ·obtain ⟨x,hx⟩:=am h
    simp (disch:=first|omega|assumption|(constructor<;>first|assumption|omega)|simp only[LN];omega) only[↓SB,S1,↓ao,ab hx]
    refine SUB.v1 (bb (bZ k cnt x)) ?_ ?_
    ·unfold bZ;repeat' (first | apply And.intro | intro _ | simp (disch:=first|omega|assumption|(constructor<;>first|assumption|omega)|simp only[LN];omega) only[↓SB,S1,↓ao])
     all_goals simp[*]
    cases hcx:bZ k cnt x
    ·simp (disch:=first|omega|assumption|(constructor<;>first|assumption|omega)|simp only[LN];omega) only[↓SB,S1,↓ao]
     exact ⟨i+1,rfl,⟨by omega,yu hs3 hx hcx⟩,by omega⟩
    ·have hpre:(0:Int)≤(i:Int)∧(i:Int)≤(i:Int)+1∧(i:Int)+1≤calls.length∧calls.length<4611686018427387904:=⟨by omega,by omega,by omega,by omega⟩
     obtain ⟨e5,e6⟩:=rf hs3 hx hcx
     simp (disch:=first|omega|assumption|(constructor<;>first|assumption|omega)|simp only[LN];omega) only[↓SB,S1,↓ao]
     refine ⟨fun h=>by omega,fun _=>?_⟩
     rw[e5,e6];rfl
   ·have hi4:i=calls.length:=by omega
    subst hi4
    rw[List.take_length] at hs3
    rw[hs3,vr hs3];rfl
  simp (disch:=first|omega|assumption|(constructor<;>first|assumption|omega)|simp only[LN];omega) only[↓SB,S1,↓ao]
  cases hany:calls.any (bZ k cnt)
  ·rw[nR (n:=⟨n.up,n.inc,n.peers,n.topics,calls,n.pubs,cnt,marks,ol (n.taken++[(⟨s,n.inc,cnt,k,value⟩:Mark2)]) 64⟩) hany] at hr
   rw[vr hany]
   simp (disch:=first|omega|assumption|(constructor<;>first|assumption|omega)|simp only[LN];omega) only[↓SB,S1,↓ao]
   subst hr
   exact hQ
  ·rw[nS (n:=⟨n.up,n.inc,n.peers,n.topics,calls,n.pubs,cnt,marks,ol (n.taken++[(⟨s,n.inc,cnt,k,value⟩:Mark2)]) 64⟩) hany rfl hy] at hr
   simp (disch:=first|omega|assumption|(constructor<;>first|assumption|omega)|simp only[LN];omega) only[↓SB,S1,↓ao,ab hy,↓bk hy (j:=15) (v:=L (tq y.queue c.queue ⟨3,0,0,0,s,cnt⟩)) (y:={ y with queue:=tq y.queue c.queue ⟨3,0,0,0,s,cnt⟩ }) rfl]
   rw[show wG cnt s=⟨3,0,0,0,s,cnt⟩ from if_pos hs.1] at hr
   subst hr
   refine ⟨fun _=>?_,fun h=>by omega⟩
   exact hQ
end Go.Xt
end
section
set_option linter.unusedSimpArgs false
set_option linter.unusedVariables false
set_option maxRecDepth 100000
namespace Go.Xt
theorem kU{l:List Event}{limit:Int}:bh l limit=true↔rng limit 2 32=true∧(l.length:Int)≤limit∧l.all ec=true∧((l.length:Int)<limit∨nH l=true):=by
 simp only[bh,Bool.and_eq_true,Bool.or_eq_true,decide_eq_true_eq,and_assoc]
theorem Ug{x:Event}(h:ec x=true)(hs:df x=true):ec (nJ x)=true∧(nJ x).kind=2∧(nJ x).seq≤(nJ x).last∧(nJ x).last≤1073741824∧1≤(nJ x).seq:=by
 simp only[df,Bool.or_eq_true,decide_eq_true_eq] at hs
 unfold ec at h
 unfold nJ
 by_cases h1:x.kind=1
 ·rw[if_pos h1] at h ⊢
  simp only[Bool.and_eq_true,decide_eq_true_eq,cnt,rng] at h
  obtain ⟨⟨⟨⟨h2,h3⟩,_⟩,_⟩,_⟩:=h
  simp[ec,h2,cnt,rng,h3]
 ·have h2:x.kind=2:=by omega
  rw[if_neg h1,if_pos h2] at h
  rw[if_neg h1,if_pos h2]
  refine ⟨by unfold ec;rw[if_neg h1,if_pos h2];exact h,h2,?_⟩
  simp only[Bool.and_eq_true,decide_eq_true_eq,cnt,rng] at h
  omega
theorem Mu{l:List Event}{x:Event}(h:x.kind=2):nH (l++[x])=true:=by simp[nH,h]
theorem Uh{l:List Event}{limit:Int}{x:Event}(h:(wE l limit x).2=0):bh (wE l limit x).1 limit=true:=by
 unfold wE at h ⊢
 split at h
 ·rename_i h0
  rw[if_pos h0]
  rw[Bool.and_eq_true] at h0
  obtain ⟨hr,hl,ha,hg⟩:=kU.1 h0.1
  have hrb:=aZ hr
  split at h
  ·rename_i h1
   rw[if_pos h1]
   refine kU.2 ⟨hr,by simp;omega,by simp only[List.all_append,ha,List.all_cons,List.all_nil,h0.2,Bool.and_self],.inl (by simp;omega)⟩
  ·rename_i h1
   rw[if_neg h1]
   split at h
   ·rename_i h2
    rw[if_pos h2]
    obtain ⟨g1,g2,g3,g4,g5⟩:=Ug h0.2 h2
    split at h
    ·rename_i h3
     rw[if_pos h3]
     refine kU.2 ⟨hr,by simp;omega,by simp only[List.all_append,ha,List.all_cons,List.all_nil,g1,Bool.and_self],.inr (Mu g2)⟩
    ·rename_i h3
     rw[if_neg h3]
     split at h
     ·rename_i h4
      rw[if_pos h4]
      have hlen:(l.length:Int)=limit:=by omega
      obtain ⟨j,hj⟩: ∃j,l.length=j+1:=⟨l.length-1,by omega⟩
      have e1:(limit-1).toNat=j:=by omega
      rw[e1] at h4 ⊢
      have hjl:j<l.length:=by omega
      have hy:l.getD j cx=l[j]:=by simp[List.getD_eq_getElem?_getD,hjl]
      rw[hy] at h4 ⊢
      have hlg:nH l=true:=by rcases hg with hg | hg;omega;exact hg
      have hk:l[j].kind=2:=by
       have:l.getLast? =some l[j]:=by rw[List.getLast?_eq_getElem?,hj,Nat.add_sub_cancel];simp[hjl]
       simp only[nH,this,decide_eq_true_eq] at hlg;exact hlg
      rw[List.all_eq_true] at ha
      have hev:=ha l[j] (List.getElem_mem hjl)
      unfold ec at hev
      rw[if_neg (by omega),if_pos hk] at hev
      simp only[Bool.and_eq_true,decide_eq_true_eq,cnt,rng] at hev
      have hw:IntKind.i64.wrap (l[j].last+1)=l[j].last+1:=wr (by omega) (by omega)
      rw[hw] at h4
      have hnew:ec { l[j] with last:=(nJ x).last }=true:=by
       unfold ec
       rw[if_neg (by show ¬l[j].kind=1;omega),if_pos hk]
       simp only[Bool.and_eq_true,decide_eq_true_eq,cnt,rng]
       obtain ⟨⟨⟨⟨d1,d2⟩,d3⟩,d4⟩,d5⟩:=hev
       exact ⟨⟨⟨⟨d1,d2⟩,by omega,by omega⟩,d4⟩,d5⟩
      refine kU.2 ⟨hr,by simpa using hl,?_,.inr ?_⟩
      ·rw[List.all_eq_true]
       intro y hy
       rcases List.mem_or_eq_of_mem_set hy with hy | hy
       ·exact ha y hy
       ·rw[hy];exact hnew
      ·have:(l.set j { l[j] with last:=(nJ x).last }).getLast? =some { l[j] with last:=(nJ x).last }:=by
        rw[List.getLast?_eq_getElem?,List.length_set,hj,Nat.add_sub_cancel];simp[hjl]
       unfold nH;rw[this];exact decide_eq_true hk
     ·omega
   ·omega
 ·omega
theorem RJ{l:List Event}{limit:Int}{x:Event}(h:bh l limit=true):bh (tq l limit x) limit=true:=by
 unfold tq
 split
 ·rename_i h0;exact Uh h0
 ·exact h
theorem pz{c:Config}{t self:Int}{x:Topic}{q:List Event}(h:aM c t self x=true)(hq:bh q c.queue=true):aM c t self { x with queue:=q }=true:=by
 simp only[aM,dK,Bool.and_eq_true] at h ⊢
 exact ⟨h.1,h.2.1,hq⟩
theorem sX{c:Config}{t self:Int}{x:Topic}(h:aM c t self x=true):bh x.queue c.queue=true:=by
 simp only[aM,dK,Bool.and_eq_true] at h;exact h.2.2
theorem SZ{c:Config}{self:Int}{l:List Topic}{t:Int}{x:Event}(h:bI c self 0 l=true)(h0:0≤t)(h1:t<l.length):bI c self 0 (Rf c l t x)=true∧(Rf c l t x).length=l.length:=by
 obtain ⟨k,rfl⟩:=Int.eq_ofNat_of_zero_le h0
 obtain ⟨y,hy⟩:=am h1
 have hgd:l.getD k fF=y:=by simp[List.getD_eq_getElem?_getD,hy]
 unfold Rf
 rw[Int.toNat_natCast,hgd]
 refine ⟨D0 h ?_,by simp⟩
 have:=rg h hy
 exact pz this (RJ (sX this))
theorem D2{c:Config}{a b:Int}: ∀ {l:List Call} {p q:Int},bM c a p l=true→a≤b→q≤p→bM c b q l=true
 | [],_,_,_,_,_=>rfl
 | x::r,p,q,h,hab,hqp=>by
  simp only[bM,Bool.and_eq_true,decide_eq_true_eq] at h ⊢
  obtain ⟨⟨⟨⟨h1,h2⟩,h3⟩,h4⟩,h5⟩:=h
  exact ⟨⟨⟨⟨by omega,by omega⟩,h3⟩,h4⟩,D2 h5 hab (Int.le_refl _)⟩
theorem GK{c:Config}{a:Int}: ∀ {l:List Call} {p:Int},p≤a→bM c a p l=true→(l.length:Int)≤a-p
 | [],p,h0,_=>by simp;omega
 | x::r,p,h0,h=>by
  simp only[bM,Bool.and_eq_true,decide_eq_true_eq] at h
  have:=GK (by omega) h.2
  simp only[List.length_cons];omega
theorem At{c:Config}{a:Int}{f:Call→Bool}: ∀ {l:List Call} {p:Int},bM c a p l=true→bM c a p (l.eraseP f)=true
 | [],_,_=>rfl
 | x::r,p,h=>by
  have h':=h
  simp only[bM,Bool.and_eq_true,decide_eq_true_eq] at h
  rw[List.eraseP_cons]
  cases f x
  ·simp only[cond_false]
   simp only[bM,Bool.and_eq_true,decide_eq_true_eq]
   exact ⟨h.1,At h.2⟩
  ·exact D2 h.2 (Int.le_refl _) (by omega)
theorem GL{c:Config}{a b t:Int}: ∀ {l:List Call} {p:Int},p≤a→bM c a p l=true→a<b→rng t 0 (c.topics-1)=true→bM c b p (l++[⟨b,t,0⟩])=true
 | [],p,h0,_,hab,ht=>by
  simp only[List.nil_append,bM,Bool.and_eq_true,decide_eq_true_eq]
  exact ⟨⟨⟨⟨by omega,by omega⟩,ht⟩,by unfold rng;simp⟩,trivial⟩
 | x::r,p,h0,h,hab,ht=>by
  simp only[bM,Bool.and_eq_true,decide_eq_true_eq] at h
  simp only[List.cons_append,bM,Bool.and_eq_true,decide_eq_true_eq]
  obtain ⟨⟨⟨⟨h1,h2⟩,h3⟩,h4⟩,h5⟩:=h
  exact ⟨⟨⟨⟨by omega,by omega⟩,h3⟩,h4⟩,GL (by omega) h5 hab ht⟩
theorem Oy{c:Config}{self:Int}{n:Node}{t count who:Int}(H:NOk c self n)(ht:rng t 0 (c.topics-1)=true) :
  NOk c self (kd c n t count who)∧(kd c n t count who).asks=n.asks∧(kd c n t count who).inc=n.inc∧(kd c n t count who).up=n.up:=by
 unfold kd
 split
 ·have hb:=aZ ht
  have htl:=H.tl
  obtain ⟨h1,h2⟩:=SZ (x:=wG count who) (t:=t) H.tops hb.1 (by omega)
  refine ⟨⟨H.inc,H.pubs,H.asks,At H.calls,?_,H.pl,by rw[←H.tl];exact congrArg _ h2,H.ml,H.kl,h1,H.peers,H.marks,H.taken⟩,rfl,rfl,rfl⟩
  have:=List.length_eraseP_le (p:=bZ t count) (l:=n.calls)
  have:=H.cl
  show (n.calls.eraseP _).length≤40
  omega
 ·exact ⟨H,rfl,rfl,rfl⟩
theorem Ui{m b:Int}(h0:0≤m)(h1:m≤2199023255551)(h2:0≤b)(h3:b≤40)(h:m / 2 ^ b.toNat % 2=0):0≤m+2 ^ b.toNat∧m+2 ^ b.toNat≤2199023255551:=by
 obtain ⟨m,rfl⟩:=Int.eq_ofNat_of_zero_le h0
 obtain ⟨d,rfl⟩:=Int.eq_ofNat_of_zero_le h2
 simp only[Int.toNat_natCast] at h ⊢
 have e0:((2:Int) ^ d)=((2 ^ d:Nat):Int):=(Int.natCast_pow 2 d).symm
 rw[e0] at h ⊢
 have h4:m / 2 ^ d % 2=0:=by
  have:((m / 2 ^ d % 2:Nat):Int)=0:=by rw[Int.natCast_emod,Int.natCast_ediv];exact h
  omega
 have h5:2 ^ d<2199023255552:=Nat.pow_lt_pow_right (a:=2) (n:=41) (by decide) (by omega)
 have h6:m ||| 2 ^ d<2 ^ 41:=Nat.or_lt_two_pow (by omega) (by omega)
 rw[RI h4] at h6
 generalize 2 ^ d=P at h6 ⊢
 omega
theorem T3{l:List Mark}{o inc count:Int}(h:l.all fE=true)(hi:cnt inc=true)(h0:0≤count)(h1:count≤40):(jB l o inc count).all fE=true∧(jB l o inc count).length=l.length:=by
 unfold jB
 split
 ·rename_i hm
  refine ⟨?_,by simp⟩
  simp only[meets,Bool.and_eq_true,Bool.not_eq_true'] at hm
  have hmk:fE (l.getD o.toNat Af)=true:=by
   rw[List.getD_eq_getElem?_getD]
   cases hx:l[o.toNat]? with
   | none=>rfl
   | some x=>exact (List.all_eq_true.1 h) x (List.mem_of_getElem? hx)
  generalize l.getD o.toNat Af=y at hm hmk ⊢
  have hnw:fE (kG y inc)=true:=by
   unfold kG;split
   ·simp only[cnt] at hi
    have:=aZ hi
    simp[fE,rng];omega
   ·exact hmk
  generalize kG y inc=z at hm hnw ⊢
  simp only[fE,Bool.and_eq_true] at hnw
  have hb:=aZ hnw.2
  have hz:z.met / 2 ^ count.toNat % 2=0:=by
   have:=hm.2
   simp only[pJ,decide_eq_false_iff_not] at this
   omega
  have:=Ui hb.1 hb.2 h0 h1 hz
  rw[List.all_eq_true]
  intro x hx
  rcases List.mem_or_eq_of_mem_set hx with hx | hx
  ·exact (List.all_eq_true.1 h) x hx
  ·rw[hx]
   simp only[fE,Bool.and_eq_true]
   exact ⟨hnw.1,by unfold rng;simp;omega⟩
 ·exact ⟨h,rfl⟩
end Go.Xt
end
section
set_option linter.unusedSimpArgs false
set_option linter.unusedVariables false
set_option maxRecDepth 100000
namespace Go.Xt
structure VOk (c:Config) (x:Msg):Prop where
 t:rng x.topic 0 (c.topics-1)=true
 o:rng x.node 0 (c.nodes-1)=true
 i:cnt x.inc=true
 k:rng x.count 1 40=true
 v:val x.value=true
theorem Pq{c:Config}{self:Int}{n:Node}{x:Msg}{who:Int}(H:NOk c self n)(ht:rng x.topic 0 (c.topics-1)=true) :
  NOk c self (lP c self n x who).1∧(lP c self n x who).1.asks=n.asks∧(lP c self n x who).1.inc=n.inc∧(lP c self n x who).1.up=n.up:=by
 unfold lP
 split
 ·exact Oy H ht
 ·exact ⟨H,rfl,rfl,rfl⟩
theorem Qj{α:Type}{l:List α}{k:Nat}:(ol l k).length≤k:=by unfold ol;simp;omega
theorem Qk{α:Type}{l:List α}{k:Nat}{x:α}(h:x∈ol l k):x∈l:=List.mem_of_mem_drop h
theorem RK{c:Config}{self:Int}{n:Node}{x:Msg}(H:NOk c self n)(V:VOk c x) :
  NOk c self (iv c self n x).1∧(iv c self n x).1.asks=n.asks∧(iv c self n x).1.inc=n.inc∧(iv c self n x).1.up=n.up:=by
 unfold iv
 split
 ·refine Pq (n:={ n with taken:=_ }) ⟨H.inc,H.pubs,H.asks,H.calls,H.cl,H.pl,H.tl,H.ml,Qj,H.tops,H.peers,H.marks,?_⟩ V.t
  rw[List.all_eq_true]
  intro y hy
  have:=Qk hy
  rw[List.mem_append,List.mem_singleton] at this
  rcases this with h | h
  ·exact (List.all_eq_true.1 H.taken) y h
  ·subst h
   have hk:=aZ V.k
   simp only[mL,Bool.and_eq_true]
   exact ⟨⟨⟨⟨V.o,V.t⟩,V.i⟩,by unfold cnt rng;simp;omega⟩,V.v⟩
 ·unfold goN
  split
  ·exact Pq H V.t
  ·exact ⟨H,rfl,rfl,rfl⟩
theorem GM{c:Config}{self:Int}{n:Node}{t value:Int}(hw:ax c self n=0)(ht:rng t 0 (c.topics-1)=true)(hv:val value=true)(ha:n.asks<40){q:Node×List Msg×Int×Int}(hE:aN c self n t value=q) :
  q.2.2.2=0∧q.2.2.1=n.asks+1∧q.1.asks=n.asks+1∧ax c self q.1=0∧q.1.inc=n.inc ∧
  ((q.2.1=[]∧q.1.calls.length=n.calls.length)∨ ∃m,q.2.1=[m]∧m.kind=11∧m.node=self∧m.inc=n.inc∧m.count=n.asks+1∧m.hops=1∧q.1.calls.length=n.calls.length+1):=by
 obtain ⟨hc,hs,hu,H⟩:=ca hw
 have hab:=aZ H.asks
 unfold aN at hE
 rw[if_pos hw,if_pos (by rw[ht,hv];rfl),if_pos ha] at hE
 dsimp only at hE
 have hlen:=GK hab.1 H.calls
 have hcalls:=GL (t:=t) (b:=n.asks+1) hab.1 H.calls (by omega) ht
 have hmk:=T3 (o:=self) (count:=n.asks+1) H.marks H.inc (by omega) (by omega)
 have H1:NOk c self { n with asks:=n.asks+1,calls:=n.calls++[⟨n.asks+1,t,0⟩],marks:=jB n.marks self n.inc (n.asks+1) } :=
  ⟨H.inc,H.pubs,by unfold rng;simp;omega,hcalls,by simp;omega,H.pl,H.tl,by rw[←H.ml];exact congrArg _ hmk.2,H.kl,H.tops,H.peers,hmk.1,H.taken⟩
 have V:VOk c { lL with topic:=t,node:=self,inc:=n.inc,count:=n.asks+1,value:=value } :=
  ⟨ht,hs,H.inc,by unfold rng;simp;omega,hv⟩
 obtain ⟨v1,v2,v3,v4⟩:=RK H1 V
 subst hE
 refine ⟨rfl,rfl,v2,Ox hc hs (by rw[v4];exact hu) v1,v3,?_⟩
 have hany:(n.calls++[(⟨n.asks+1,t,0⟩:Call)]).any (bZ t (n.asks+1))=true:=by simp[bZ]
 have hend: ∀(m:Node) (who:Int),m.calls=n.calls++[(⟨n.asks+1,t,0⟩:Call)]→(kd c m t (n.asks+1) who).calls.length=n.calls.length:=by
  intro m who hm
  unfold kd
  rw[if_pos (by rw[hm];exact hany)]
  show (m.calls.eraseP _).length=_
  rw[hm]
  obtain ⟨a,h1,h2⟩:=List.any_eq_true.1 hany
  rw[List.length_eraseP_of_mem h1 h2];simp
 have htell: ∀(m:Node) (who:Int),m.calls=n.calls++[(⟨n.asks+1,t,0⟩:Call)]→(lP c self m { lL with topic:=t,node:=self,inc:=n.inc,count:=n.asks+1,value:=value } who).2=[]∧(lP c self m { lL with topic:=t,node:=self,inc:=n.inc,count:=n.asks+1,value:=value } who).1.calls.length=n.calls.length:=by
  intro m who hm
  unfold lP
  rw[if_pos rfl]
  exact ⟨rfl,hend m who hm⟩
 unfold iv
 split
 ·exact .inl (htell _ _ rfl)
 ·unfold goN
  split
  ·exact .inl (htell _ _ rfl)
  ·exact .inr ⟨_,rfl,rfl,rfl,rfl,rfl,rfl,by simp⟩
def wN0:Node:=⟨true,1,List.replicate 8 ⟨0,0⟩,List.replicate 4 fF,[],0,0,List.replicate 8 ⟨0,0,0⟩,[]⟩
end Go.Xt
end
section
set_option linter.unusedSimpArgs false
set_option linter.unusedVariables false
set_option maxRecDepth 100000
namespace Go.Xt
set_option linter.defProp false
theorem oR: ∀(ls:List (List Int)) (i:Nat),((ls.take i).flatten).length≤ls.flatten.length
 | [],i=>by simp
 | l::r,0=>by simp
 | l::r,i+1=>by
  have:=oR r i
  simp only[List.take_succ_cons,List.flatten_cons,List.length_append];omega
theorem GN{ls:List (List Int)}{i:Nat}{x:List Int}(hx:ls[i]? =some x):(ls.take (i+1)).flatten=(ls.take i).flatten++x:=by
 rw[List.take_add_one,hx];simp
theorem rh(ls:List (List Int))(hp:ls.flatten.length≤1000000)(hg:ag (bj ls).2.1):WW ρ 1 fO bj ls:=by
 simp only[bj,RR] at hg ⊢
 unfold fO
 simp only[ag,aR] at hg
 simp (disch:=first|omega|assumption|(constructor<;>first|assumption|omega)|simp only[LN];omega) only[↓SB,S1,↓bY]
 refine aw.rule (α:=Nat) (fun i=>[I (((ls.take i).flatten).length:Nat),I i]) (fun i=>i≤ls.length) (fun i=>ls.length-i) 0 rfl (by omega) (fun _=>rfl) ?_
 intro i hl
 have hi1:=oR ls i
 simp only[app]
 simp (disch:=first|omega|assumption|(constructor<;>first|assumption|omega)|simp only[LN];omega) only[↓SB,S1,↓bY]
 refine ⟨fun h=>?_,fun h=>?_⟩
 ·obtain ⟨x,hx⟩:=am h
  have hft:=GN hx
  have hi2:=oR ls (i+1)
  rw[hft,List.length_append] at hi2
  simp (disch:=first|omega|assumption|(constructor<;>first|assumption|omega)|simp only[LN];omega) only[↓SB,S1,↓bY,ab hx]
  refine ⟨fun h=>by omega,fun _=>⟨i+1,?_,by omega,by omega⟩⟩
  rw[hft];simp
 ·rw[List.take_of_length_le (by omega)]
  have hpre:([]:List Int)=[]∧(0:Int)≤(ls.flatten.length:Int)∧(ls.flatten.length:Int)≤1000000:=⟨rfl,by omega,by omega⟩
  simp (disch:=first|omega|assumption|(constructor<;>first|assumption|omega)|simp only[LN];omega) only[↓SB,S1,↓bY]
  refine aw.rule (α:=Nat) (fun i=>[I i,L ((ls.take i).flatten)]) (fun i=>i≤ls.length) (fun i=>ls.length-i) 0 rfl (by omega) (fun _=>rfl) ?_
  intro j hj
  have hi1:=oR ls j
  simp only[app]
  simp (disch:=first|omega|assumption|(constructor<;>first|assumption|omega)|simp only[LN];omega) only[↓SB,S1,↓bY]
  refine ⟨fun h=>?_,fun h=>?_⟩
  ·obtain ⟨x,hx⟩:=am h
   have hft:=GN hx
   have hi2:=oR ls (j+1)
   rw[hft,List.length_append] at hi2
   simp (disch:=first|omega|assumption|(constructor<;>first|assumption|omega)|simp only[LN];omega) only[↓SB,S1,↓bY,ab hx]
   refine ⟨j+1,?_,by omega,by omega⟩
   rw[hft];simp
  ·rw[List.take_of_length_le (by omega)]
def Oz:=And.intro @bP (@et)
theorem OA(m:Msg):WW ρ 16 wR mg m:=by
 simp only[mg,RR]
 unfold wR u7
 simp (disch:=first|omega|assumption|(constructor<;>first|assumption|omega)|simp only[LN];omega) only[↓S0,S3,S2,S1,↓Oz]
 cases isN m.frm<;>cases isN m.to<;>simp
def Mv:=And.intro @rb (@bP)
theorem Mw(m:Msg):WW ρ 16 uw kQ m:=by
 simp only[kQ,RR]
 unfold uw u9
 simp (disch:=first|omega|assumption|(constructor<;>first|assumption|omega)|simp only[LN];omega) only[↓S0,S3,S2,S1,↓Mv]
 cases rng m.epoch 1 1073741824<;>simp
def Mx:=And.intro @cn (And.intro @rb (And.intro @bP (@et)))
theorem My(m:Msg):WW ρ 16 ux kR m:=by
 simp only[kR,RR]
 unfold ux lZ
 simp (disch:=first|omega|assumption|(constructor<;>first|assumption|omega)|simp only[LN];omega) only[↓S0,S3,S2,S1,↓Mx]
 cases isN m.node<;>cases cnt m.inc<;>cases val m.value<;>simp
theorem sY{α:Type}[DecidableEq α]{l:List α}{i:Nat}{x:α}(hx:l[i]? =some x):(l.take (i+1)).Nodup↔(l.take i).Nodup∧x∉l.take i:=by
 rw[List.take_add_one,hx,Option.toList_some,List.nodup_append]
 constructor
 ·rintro ⟨h1,_,h3⟩
  exact ⟨h1,fun hm=>h3 x hm x (by simp) rfl⟩
 ·rintro ⟨h1,h2⟩
  refine ⟨h1,by simp,fun a ha b hb=>?_⟩
  rw[List.mem_singleton] at hb
  subst hb
  rintro rfl;exact h2 ha
theorem GO{α:Type}{l:List α}{i:Nat}(h:l.Nodup):(l.take i).Nodup:=List.Nodup.sublist (List.take_sublist _ _) h
theorem JM(l:List Int)(hg:ag (gB l).2.1):WW ρ 1 sC gB l:=by
 simp only[gB,RR] at hg ⊢
 unfold sC
 simp only[ag,aR] at hg
 generalize hE:decide l.Nodup=q
 simp (disch:=first|omega|assumption|(constructor<;>first|assumption|omega)|simp only[LN];omega) only[↓SB,S1,↓bT]
 refine aw.rule (α:=Nat) (fun i=>[I i]) (fun i=>i≤l.length∧(l.take i).Nodup) (fun i=>l.length-i) 0 rfl ⟨by omega,by simp⟩ (fun _=>rfl) ?_
 rintro i ⟨hl,hs⟩
 simp only[app]
 simp (disch:=first|omega|assumption|(constructor<;>first|assumption|omega)|simp only[LN];omega) only[↓SB,S1,↓bT]
 refine ⟨fun h=>?_,fun h=>?_⟩
 ·obtain ⟨x,hx⟩:=am h
  simp (disch:=first|omega|assumption|(constructor<;>first|assumption|omega)|simp only[LN];omega) only[↓SB,S1,↓bT,ab hx,Int.toNat_natCast]
  refine ⟨fun h3=>?_,fun h3=>⟨i+1,rfl,⟨by omega,(sY hx).2 ⟨hs,fun hm=>?_⟩⟩,by omega⟩⟩
  ·rw[←hE]
   have: ¬l.Nodup:=fun hn=>((sY hx).1 (GO hn)).2 (by simpa using h3)
   simp[this]
  ·have:(l.take i).contains x=true:=by simpa using hm
   rw[h3] at this;cases this
 ·rw[List.take_of_length_le (by omega)] at hs
  rw[←hE];simp[hs]
def Ql:=And.intro @wH (@yd)
theorem Qm(l:List Int)(hg:ag (mh l).2.1):WW ρ 1 zr mh l:=by
 simp only[mh,RR] at hg ⊢
 unfold zr mX
 simp (disch:=first|omega|assumption|(constructor<;>first|assumption|omega)|simp only[LN];omega) only[↓SB,S1,↓Ql]
 refine ⟨fun h=>?_,fun h=>?_⟩
 ·have e:decide (l.length≤8)=true:=by simp;omega
  rw[e]
  cases l.all isN<;>simp
 ·have e:decide (l.length≤8)=false:=by simp;omega
  simp[e]
def bO:=And.intro @cn (And.intro @rb (And.intro @bP (And.intro @et (And.intro @Q0 (And.intro @LF (And.intro @LG (And.intro @yd (@rc))))))))
theorem OB(m:Msg)(hg:ag (kr m).2.1):WW ρ 16 wT kr m:=by
  simp only[kr,RR] at hg ⊢
  unfold wT
  simp only[ag,bV,aR] at hg
  generalize hE:kH m=q
  simp (disch:=first|omega|assumption|(constructor<;>first|assumption|omega)|simp only[LN];omega) only[↓SB,S1,↓bO]
  refine SUB.v1 (bb (decide (m.kind=1)||decide (m.kind=5)||decide (m.kind=6))) ?_ ?_
  · repeat' (first | apply And.intro | intro _ | simp (disch:=first|omega|assumption|(constructor<;>first|assumption|omega)|simp only[LN];omega) only[↓SB,S1,↓bO])
    all_goals simp_all
  unfold kH at hE
  by_cases k1:m.kind=1∨m.kind=5∨m.kind=6
  · rw[if_pos k1] at hE
    have e:(decide (m.kind=1)||decide (m.kind=5)||decide (m.kind=6))=true:=by simp;omega
    simp (disch:=first|omega|assumption|(constructor<;>first|assumption|omega)|simp only[LN];omega) only[↓SB,S1,↓bO,e]
    rw[←hE]
  rw[if_neg k1] at hE
  have e:(decide (m.kind=1)||decide (m.kind=5)||decide (m.kind=6))=false:=by simp;omega
  simp (disch:=first|omega|assumption|(constructor<;>first|assumption|omega)|simp only[LN];omega) only[↓SB,S1,↓bO,e]
  refine ⟨fun k2=>?_,fun k2=>?_⟩
  · rw[if_pos k2] at hE
    rw[←hE]
    repeat' (first | apply And.intro | intro _ | simp (disch:=first|omega|assumption|(constructor<;>first|assumption|omega)|simp only[LN];omega) only[↓SB,S1,↓bO])
    all_goals simp_all
  rw[if_neg k2] at hE
  refine ⟨fun k3=>?_,fun k3=>?_⟩
  · rw[if_pos k3] at hE
    rw[←hE]
    have eL:(PV.list []:PV)=L ([]:List Int):=rfl
    cases hpa:m.path with
    | nil =>
      repeat' (first | apply And.intro | intro _ | simp (disch:=first|omega|assumption|(constructor<;>first|assumption|omega)|simp only[LN];omega) only[↓SB,S1,↓bO])
      all_goals (rw[eL];simp_all)
    | cons p r =>
      have hc0:(L (p::r)).cellAt (I 0) 0=I p:=ab (i:=0) (x:=p) rfl
      repeat' (first | apply And.intro | intro _ | simp (disch:=first|omega|assumption|(constructor<;>first|assumption|omega)|simp only[LN];omega) only[↓SB,S1,↓bO,hc0,eL])
      all_goals simp_all
  rw[if_neg k3] at hE
  refine ⟨fun k4=>?_,fun k4=>?_⟩
  · rw[if_pos k4] at hE
    rw[←hE]
    repeat' (first | apply And.intro | intro _ | simp (disch:=first|omega|assumption|(constructor<;>first|assumption|omega)|simp only[LN];omega) only[↓SB,S1,↓bO])
    all_goals simp_all
  rw[if_neg k4] at hE
  refine ⟨fun k7=>?_,fun k7=>?_⟩
  · rw[if_pos k7] at hE
    rw[←hE]
    repeat' (first | apply And.intro | intro _ | simp (disch:=first|omega|assumption|(constructor<;>first|assumption|omega)|simp only[LN];omega) only[↓SB,S1,↓bO])
    all_goals simp_all
  rw[if_neg k7] at hE
  refine ⟨fun k8=>?_,fun k8=>?_⟩
  · rw[if_pos k8] at hE
    rw[←hE]
    repeat' (first | apply And.intro | intro _ | simp (disch:=first|omega|assumption|(constructor<;>first|assumption|omega)|simp only[LN];omega) only[↓SB,S1,↓bO])
    all_goals simp_all
  rw[if_neg k8] at hE
  refine ⟨fun k9=>?_,fun k9=>?_⟩
  · rw[if_pos k9] at hE
    rw[←hE]
    repeat' (first | apply And.intro | intro _ | simp (disch:=first|omega|assumption|(constructor<;>first|assumption|omega)|simp only[LN];omega) only[↓SB,S1,↓bO])
    all_goals simp_all
  rw[if_neg k9] at hE
  refine ⟨fun k10=>?_,fun k10=>?_⟩
  · rw[if_pos k10] at hE
    rw[←hE]
    repeat' (first | apply And.intro | intro _ | simp (disch:=first|omega|assumption|(constructor<;>first|assumption|omega)|simp only[LN];omega) only[↓SB,S1,↓bO])
    all_goals simp_all
  rw[if_neg k10] at hE
  refine ⟨fun k11=>?_,fun k11=>?_⟩
  · rw[if_pos k11] at hE
    rw[←hE]
    cases hpa:mX m.path with
    | false => repeat' (first | apply And.intro | intro _ | simp (disch:=first|omega|assumption|(constructor<;>first|assumption|omega)|simp only[LN];omega) only [↓SB, S1, ↓bO])
               all_goals simp_all[show (PV.list []:PV)=L ([]:List Int) from rfl]
    | true =>
    cases hto:mX m.todo with
    | false => repeat' (first | apply And.intro | intro _ | simp (disch:=first|omega|assumption|(constructor<;>first|assumption|omega)|simp only[LN];omega) only [↓SB, S1, ↓bO])
               all_goals simp_all[show (PV.list []:PV)=L ([]:List Int) from rfl]
    | true =>
      have hfl:([m.path,m.todo].flatten).length≤1000000:=by
        simp only[mX,Bool.and_eq_true,decide_eq_true_eq] at hpa hto
        simp;omega
      repeat' (first | apply And.intro | intro _ | simp (disch:=first|omega|assumption|(constructor<;>first|assumption|omega)|simp only[LN];omega) only[↓SB,S1,↓bO])
      all_goals simp_all[show (PV.list []:PV)=L ([]:List Int) from rfl]
  rw[if_neg k11] at hE
  refine ⟨fun k12=>?_,fun k12=>?_⟩
  · rw[if_pos k12] at hE
    rw[←hE]
    repeat' (first | apply And.intro | intro _ | simp (disch:=first|omega|assumption|(constructor<;>first|assumption|omega)|simp only[LN];omega) only[↓SB,S1,↓bO])
    all_goals simp_all
  rw[if_neg k12] at hE
  refine ⟨fun k13=>?_,fun k13=>?_⟩
  · rw[if_pos k13] at hE
    rw[←hE]
    repeat' (first | apply And.intro | intro _ | simp (disch:=first|omega|assumption|(constructor<;>first|assumption|omega)|simp only[LN];omega) only[↓SB,S1,↓bO])
    all_goals simp_all
  rw[if_neg k13] at hE
  rw[←hE]
def n9:=And.intro @rb (And.intro @bP (And.intro @NZ (@NY)))
theorem Mz(m:Msg)(hg:ag (iO m).2.1):WW ρ 16 uy iO m:=by
 simp only[iO,RR] at hg ⊢
 unfold uy
 simp only[ag,bV,aR] at hg
 simp (disch:=first|omega|assumption|(constructor<;>first|assumption|omega)|simp only[LN];omega) only[↓SB,S1,↓n9]
 refine SUB.v1 (bb (ln m)) ?_ ?_
 ·unfold ln
  refine ⟨fun k=>?_,fun k=>?_⟩
  ·rw[if_pos k]
   repeat' (first | apply And.intro | intro _ | simp (disch:=first|omega|assumption|(constructor<;>first|assumption|omega)|simp only[LN];omega) only[↓SB,S1,↓n9])
   all_goals simp_all
  ·rw[if_neg k]
   repeat' (first | apply And.intro | intro _ | simp (disch:=first|omega|assumption|(constructor<;>first|assumption|omega)|simp only[LN];omega) only[↓SB,S1,↓n9])
   all_goals simp_all
 refine SUB.v1 (bb (rH (kH m).1)) ?_ ?_
 ·unfold rH
  repeat' (first | apply And.intro | intro _ | simp (disch:=first|omega|assumption|(constructor<;>first|assumption|omega)|simp only[LN];omega) only[↓SB,S1,↓n9])
  all_goals simp_all
 unfold gR
 cases e1:(kH m).2<;>cases e2:ln m<;>cases e3:rH (kH m).1
 all_goals simp (disch:=first|omega|assumption|(constructor<;>first|assumption|omega)|simp only[LN];omega) only[↓SB,S1,↓n9,e1,e2,e3]
 all_goals simp
 refine ⟨fun h h2=>by rw[h2] at h;simp at h,fun h=>⟨fun h2 _ h3=>by rw[h3] at h2;simp at h2,fun h2=>⟨h,h2⟩⟩⟩
end Go.Xt
end
section
set_option linter.unusedSimpArgs false
set_option linter.unusedVariables false
set_option maxRecDepth 100000
namespace Go.Xt
end Go.Xt
end
section
set_option linter.unusedSimpArgs false
set_option linter.unusedVariables false
set_option maxRecDepth 100000
namespace Go.Xt
theorem T4{x:Msg}(h:gR x=true)(hk:x.kind=11):lZ x=true∧rng x.count 1 40=true∧mX x.path=true∧mX x.todo=true∧(x.path++x.todo).Nodup∧rng x.topic 0 3=true:=by
 simp only[gR,Bool.and_eq_true] at h
 obtain ⟨⟨⟨⟨k1,k2⟩,_⟩,_⟩,_⟩:=h
 simp only[ln,Bool.and_eq_true] at k2
 have k3:=k2.2
 rw[if_neg (by omega),Bool.and_eq_true] at k3
 unfold kH at k1
 rw[if_neg (by omega),if_neg (by omega),if_neg (by omega),if_neg (by omega),if_neg (by omega),if_neg (by omega),if_neg (by omega),if_neg (by omega),if_pos hk] at k1
 simp only[Bool.and_eq_true,decide_eq_true_eq] at k1
 obtain ⟨⟨⟨⟨a,b⟩,d⟩,e⟩,f⟩:=k1
 exact ⟨a,b,d,e,f,k3.2⟩
structure MV (c:Config) (x:Msg):Prop where
 ok:gR x=true
 k:x.kind=11
 t:rng x.topic 0 (c.topics-1)=true
 n:rng x.node 0 (c.nodes-1)=true
 p:(x.path.all fun n=>rng n 0 (c.nodes-1))=true
 d:(x.todo.all fun n=>rng n 0 (c.nodes-1))=true
theorem MV.v{c:Config}{x:Msg}(h:MV c x):VOk c x:=by
 obtain ⟨a,b,_⟩:=T4 h.ok h.k
 simp only[lZ,Bool.and_eq_true] at a
 exact ⟨h.t,h.n,a.1.1.2,b,a.1.2⟩
end Go.Xt
end
section
set_option linter.unusedSimpArgs false
set_option linter.unusedVariables false
set_option maxRecDepth 100000
namespace Go.Xt
theorem MA(l:List Int)(n:Int)(hg:ag (iP (l,n)).2.1):WW ρ 2 uz iP (l,n):=by
 simp only[iP,RR] at hg ⊢
 unfold uz
 simp only[ag,aR] at hg
 refine aw.rule (α:=Nat) (fun i=>[I i]) (fun i=>i≤l.length∧(l.drop i).contains n=l.contains n) (fun i=>l.length-i) 0 rfl ⟨by omega,by simp⟩ (fun _=>rfl) ?_
 rintro i ⟨h1,h2⟩
 simp only[app]
 simp (disch:=first|omega|assumption|(constructor<;>first|assumption|omega)|simp only[LN];omega) only[↓SB,S1]
 refine ⟨fun h=>?_,fun h=>?_⟩
 ·obtain ⟨x,hx⟩:=am h
  rw[az hx,List.contains_cons] at h2
  simp (disch:=first|omega|assumption|(constructor<;>first|assumption|omega)|simp only[LN];omega) only[↓SB,S1,ab hx]
  refine ⟨fun h3=>?_,fun h3=>⟨i+1,rfl,⟨by omega,?_⟩,by omega⟩⟩
  ·rw[←h2];simp[h3]
  ·rw[←h2];simp
   intro h4;exact absurd h4.symm h3
 ·rw[aq h] at h2
  rw[←h2];simp
theorem FC(n:Int):WW ρ 1 qv ig n:=by
 simp only[ig,RR]
 unfold qv
 simp (disch:=first|omega|assumption|(constructor<;>first|assumption|omega)|simp only[LN];omega) only[↓SB,S1,↓mj]
 rfl
theorem D3(x:Topic):WW ρ 16 oM fM x:=by
 simp only[fM,RR]
 unfold oM oh
 simp (disch:=first|omega|assumption|(constructor<;>first|assumption|omega)|simp only[LN];omega) only[↓SB,S1]
 refine ⟨fun h=>?_,fun h=>?_⟩ <;>simp[h]
theorem FD(l:List Int)(hg:ag (fi l).2.1):WW ρ 1 qu fi l:=by
 simp only[fi,RR] at hg ⊢
 unfold qu
 simp only[ag,bV,aR] at hg
 refine aw.rule (α:=Nat) (fun i=>[I i]) (fun i=>i≤l.length∧(l.drop i).all (isN)=l.all (isN)) (fun i=>l.length-i) 0 rfl ⟨by omega,by simp⟩ (fun _=>rfl) ?_
 rintro i ⟨hl_i,hs_i⟩
 simp only[app]
 simp (disch:=first|omega|assumption|(constructor<;>first|assumption|omega)|simp only[LN];omega) only[↓SB,S1,↓dV]
 refine ⟨fun hc_i=>?_,fun hc_i=>?_⟩
 ·obtain ⟨x,hx⟩:=am hc_i
  rw[az hx,List.all_cons] at hs_i
  simp (disch:=first|omega|assumption|(constructor<;>first|assumption|omega)|simp only[LN];omega) only[↓SB,S1,↓dV,ab hx]
  refine ⟨fun h3=>?_,fun h3=>⟨i+1,rfl,⟨by omega,by simpa[h3] using hs_i⟩,by omega⟩⟩
  rw[←hs_i];simp[h3]
 ·rw[aq hc_i] at hs_i
  rw[←hs_i]
  simp;omega
theorem D4(l:List Int)(hg:ag (dR l).2.1):WW ρ 1 oL dR l:=by
 simp only[dR,RR] at hg ⊢
 unfold oL
 simp only[ag,aR] at hg
 generalize hE:decide l.Nodup=q
 refine aw.rule (α:=Nat) (fun i=>[I i]) (fun i=>i≤l.length∧(l.take i).Nodup) (fun i=>l.length-i) 0 rfl ⟨by omega,by simp⟩ (fun _=>rfl) ?_
 rintro i ⟨hl,hs⟩
 simp only[app]
 simp (disch:=first|omega|assumption|(constructor<;>first|assumption|omega)|simp only[LN];omega) only[↓SB,S1]
 refine ⟨fun h=>?_,fun h=>?_⟩
 ·obtain ⟨x,hx⟩:=am h
  refine aw.rule (α:=Nat) (fun j=>[I j]) (fun j=>j≤i∧ ¬x∈l.take j) (fun j=>i-j) 0 rfl ⟨by omega,by simp⟩ (fun _=>rfl) ?_
  rintro j ⟨hj,hs2⟩
  simp only[app]
  simp (disch:=first|omega|assumption|(constructor<;>first|assumption|omega)|simp only[LN];omega) only[↓SB,S1]
  refine ⟨fun h4=>?_,fun h4=>?_⟩
  ·obtain ⟨y,hy⟩:=am (xs:=l) (i:=j) (by omega)
   simp (disch:=first|omega|assumption|(constructor<;>first|assumption|omega)|simp only[LN];omega) only[↓SB,S1,ab hx,ab hy]
   refine ⟨fun h3=>?_,fun h3=>⟨j+1,rfl,⟨by omega,?_⟩,by omega⟩⟩
   ·rw[←hE]
    have: ¬l.Nodup:=fun hn=>by
     have h5:=((sY hx).1 (GO hn)).2
     refine h5 (List.mem_of_getElem? (i:=j) ?_)
     rw[List.getElem?_take_of_lt (by omega),hy,h3]
    simp[this]
   ·rw[List.take_add_one,hy]
    intro hm
    rcases List.mem_append.1 hm with hm | hm
    ·exact hs2 hm
    ·simp at hm;exact h3 hm.symm
  ·have:j=i:=by omega
   subst this
   exact ⟨j+1,rfl,⟨by omega,(sY hx).2 ⟨hs,hs2⟩⟩,by omega⟩
 ·rw[List.take_of_length_le (by omega)] at hs
  rw[←hE];simp[hs]
theorem JN(l:List Peer)(self:Int)(hp:l.length≤1000)(hg:ag (ez (l,self)).2.1):WW ρ 2 sD ez (l,self):=by
 simp only[ez,RR] at hg ⊢
 unfold sD
 generalize hE:iC l self=q
 refine aw.rule (α:=Nat×List Int) (fun p=>[I p.1,L p.2]) (fun p=>p.1≤l.length∧p.2.length≤p.1∧p.2++kp self p.1 (l.drop p.1)=q) (fun p=>l.length-p.1) (0,[]) rfl ⟨by simp,by simp,by simpa[iC] using hE⟩ (fun _=>rfl) ?_
 rintro ⟨i,a⟩ ⟨hi,ha,hs⟩
 simp only at hi ha hs
 simp only[app]
 simp (disch:=first|omega|assumption|(constructor<;>first|assumption|omega)|simp only[LN];omega) only[↓SB,S1]
 refine ⟨fun h4=>?_,fun h4=>?_⟩
 ·obtain ⟨x,hx⟩:=am h4
  rw[az hx,kp] at hs
  simp (disch:=first|omega|assumption|(constructor<;>first|assumption|omega)|simp only[LN];omega) only[↓SB,S1,ab hx]
  refine ⟨fun h5=>⟨(i+1,a++[(i:Int)]),rfl,⟨by simp;omega,by simp;omega,?_⟩,by simp;omega⟩,fun h5=>⟨fun h6=>⟨fun h7=>⟨(i+1,a++[(i:Int)]),rfl,⟨by simp;omega,by simp;omega,?_⟩,by simp;omega⟩,fun h7=>⟨(i+1,a),rfl,⟨by simp;omega,by simp;omega,?_⟩,by simp;omega⟩⟩,fun h6=>⟨(i+1,a),rfl,⟨by simp;omega,by simp;omega,?_⟩,by simp;omega⟩⟩⟩
  ·rw[if_pos (.inl h5)] at hs;simpa using hs
  ·rw[if_pos (.inr ⟨h6,h7⟩)] at hs;simpa using hs
  ·rw[if_neg (show ¬((i:Int)=self∨(0<x.inc∧x.age<4)) by omega)] at hs;simpa using hs
  ·rw[if_neg (show ¬((i:Int)=self∨(0<x.inc∧x.age<4)) by omega)] at hs;simpa using hs
 ·rw[aq h4] at hs
  simp[kp] at hs;simp[hs]
theorem Pr{x:Event}(h:ec x=true):x.seq≤1073741824∧0≤x.seq∧x.last≤1073741824∧0≤x.last:=by
 unfold ec at h
 split at h
 ·simp only[Bool.and_eq_true,decide_eq_true_eq,cnt,rng] at h;omega
 ·split at h
  ·simp only[Bool.and_eq_true,decide_eq_true_eq,cnt,rng] at h;omega
  ·split at h
   ·simp only[Bool.and_eq_true,decide_eq_true_eq] at h;omega
   ·split at h
    ·simp only[Bool.and_eq_true,decide_eq_true_eq] at h;omega
    ·simp only[Bool.and_eq_true,decide_eq_true_eq] at h;omega
theorem Uj{l:List Event}{limit:Int}{x:Event}(h1:bh l limit=true)(h2:ec x=true):wE l limit x =
  if (l.length:Int)<limit-1 then (l++[x],0)
  else if df x=true then
   if (l.length:Int)<limit then (l++[nJ x],0)
   else if (nJ x).epoch=(l.getD (limit-1).toNat cx).epoch∧(nJ x).seq=IntKind.i64.wrap ((l.getD (limit-1).toNat cx).last+1) then
    (l.set (limit-1).toNat { (l.getD (limit-1).toNat cx) with last:=(nJ x).last },0)
   else ([],6)
  else ([],6):=by
 unfold wE;rw[if_pos (by rw[h1,h2];rfl)]
theorem RM{x:Event}(h:ec x=true)(hs:df x=true):nJ x=⟨2,x.epoch,x.seq,if x.kind=2 then x.last else x.seq,0,0⟩:=by
 simp only[df,Bool.or_eq_true,decide_eq_true_eq] at hs
 unfold ec at h
 unfold nJ
 rcases hs with h1 | h1
 ·rw[if_pos h1,if_neg (by omega)]
 ·rw[if_neg (by omega),if_pos h1,if_pos h1]
  rw[if_neg (by omega),if_pos h1] at h
  simp only[Bool.and_eq_true,decide_eq_true_eq] at h
  obtain ⟨⟨_,h4⟩,h5⟩:=h
  cases x;simp_all
theorem MB(l:List Event)(limit:Int)(x:Event)(hp:(l.length≤1000∧2≤limit∧limit≤32∧(x.kind=3∨x.kind=4))∨(bh l limit=true∧ec x=true))(hg:ag (iQ (l,limit,x)).2.1):WW ρ 8 uA iQ (l,limit,x):=by
 simp only[iQ,RR] at hg ⊢
 unfold uA
 by_cases hk:x.kind=3∨x.kind=4
 ·have hb:l.length≤1000∧2≤limit∧limit≤32:=by
   rcases hp with h | h
   ·exact ⟨h.1,h.2.1,h.2.2.1⟩
   ·have:=kD h.1;omega
  obtain ⟨h1,h2,h3⟩:=hb
  unfold wF
  rw[if_pos hk]
  simp (disch:=first|omega|assumption|(constructor<;>first|assumption|omega)|simp only[LN];omega) only[↓SB,S1,↓bc]
  refine ⟨fun h=>?_,fun h=>?_⟩
  ·simp[h]
  ·refine SUB.v1 (bb true) ?_ ?_
   ·repeat' (first | apply And.intro | intro _ | simp (disch:=first|omega|assumption|(constructor<;>first|assumption|omega)|simp only[LN];omega) only[↓SB,S1,↓bc])
    all_goals simp_all
    all_goals omega
   simp (disch:=first|omega|assumption|(constructor<;>first|assumption|omega)|simp only[LN];omega) only[↓SB,S1,↓bc]
   simp[h]
 have hq:bh l limit=true∧ec x=true:=by
  rcases hp with h | h
  ·exact absurd h.2.2.2 hk
  ·exact h
 obtain ⟨h1,h2⟩:=hq
 have hb:=kD h1
 have hx:=Pr h2
 generalize hR:wF l limit x=R
 have hRe:R=(tq l limit x,decide ((wE l limit x).2=0)):=by rw[←hR];unfold wF;rw[if_neg hk]
 have hF:=Uj h1 h2
 unfold tq at hRe
 rw[hF] at hRe
 simp (disch:=first|omega|assumption|(constructor<;>first|assumption|omega)|simp only[LN];omega) only[↓SB,S1,↓bc]
 refine ⟨fun h=>?_,fun h=>?_⟩
 ·rw[if_pos h] at hRe;simp at hRe;rw[hRe]
 ·rw[if_neg h] at hRe
  refine SUB.v1 (bb (!df x)) ?_ ?_
  ·unfold df
   repeat' (first | apply And.intro | intro _ | simp (disch:=first|omega|assumption|(constructor<;>first|assumption|omega)|simp only[LN];omega) only[↓SB,S1,↓bc])
   all_goals simp_all
  cases hs:df x
  ·simp (disch:=first|omega|assumption|(constructor<;>first|assumption|omega)|simp only[LN];omega) only[↓SB,S1,↓bc]
   rw[hs] at hRe;simp at hRe;rw[hRe]
  ·rw[if_pos hs,RM h2 hs] at hRe
   simp (disch:=first|omega|assumption|(constructor<;>first|assumption|omega)|simp only[LN];omega) only[↓SB,S1,↓bc]
   refine SUB.v1 (I (if x.kind=2 then x.last else x.seq)) ?_ ?_
   ·simp (disch:=first|omega|assumption|(constructor<;>first|assumption|omega)|simp only[LN];omega) only[↓SB,S1,↓bc]
    refine ⟨fun h=>?_,fun h=>?_⟩ <;>simp[h]
   generalize (if x.kind=2 then x.last else x.seq)=z at hRe ⊢
   simp (disch:=first|omega|assumption|(constructor<;>first|assumption|omega)|simp only[LN];omega) only[↓SB,S1,↓bc]
   refine ⟨fun h5=>?_,fun h5=>?_⟩
   ·rw[if_pos (show (l.length:Int)<limit by omega)] at hRe;simp at hRe;rw[hRe]
   ·rw[if_neg (show ¬(l.length:Int)<limit by omega)] at hRe
    obtain ⟨k,hk⟩:=Int.eq_ofNat_of_zero_le (show 0≤limit-1 by omega)
    have hlk:(l.length:Int)-1=k:=by omega
    obtain ⟨y,hy⟩:=am (xs:=l) (i:=k) (by omega)
    have hyo:=Pr (List.all_eq_true.1 hb.2.2.2 y (List.mem_of_getElem? hy))
    have hgd:l.getD k cx=y:=by simp[List.getD_eq_getElem?_getD,hy]
    have hw:IntKind.i64.wrap (y.last+1)=y.last+1:=wr (by omega) (by omega)
    rw[hk,Int.toNat_natCast,hgd,hw] at hRe
    rw[hlk]
    simp (disch:=first|omega|assumption|(constructor<;>first|assumption|omega)|simp only[LN];omega) only[↓SB,S1,↓bc,ab hy,↓bk hy (j:=3) (v:=I z) (y:={ y with last:=z }) (by simp[Event.row_eq,List.set])]
    refine ⟨fun h6=>⟨fun h7=>?_,fun h7=>?_⟩,fun h6=>?_⟩
    ·rw[if_pos (show x.epoch=y.epoch∧x.seq=y.last+1 from ⟨h6.symm,by omega⟩)] at hRe;simp at hRe;rw[hRe]
    ·rw[if_neg (show ¬(x.epoch=y.epoch∧x.seq=y.last+1) from fun h8=>h7 (by omega))] at hRe;simp at hRe;rw[hRe]
    ·rw[if_neg (show ¬(x.epoch=y.epoch∧x.seq=y.last+1) from fun h8=>h6 h8.1.symm)] at hRe;simp at hRe;rw[hRe]
theorem MC(a:Msg)(b:Msg)(hg:ag (iR (a,b)).2.1):WW ρ 32 uB iR (a,b):=by
 simp only[iR,RR] at hg ⊢
 unfold uB
 repeat' (first | apply And.intro | intro _ | simp (disch:=first|omega|assumption|(constructor<;>first|assumption|omega)|simp only[LN];omega) only[↓SB,S1,↓xX])
 all_goals simp_all[Msg.eq_iff]
end Go.Xt
end
section
set_option linter.unusedSimpArgs false
set_option linter.unusedVariables false
set_option maxRecDepth 100000
namespace Go.Xt
set_option linter.defProp false
theorem JO(a:List Msg)(b:List Msg)(hg:ag (gC (a,b)).2.1):WW ρ 2 sE gC (a,b):=by
 simp only[gC,RR] at hg ⊢
 unfold sE
 simp only[ag,aR] at hg
 simp (disch:=first|omega|assumption|(constructor<;>first|assumption|omega)|simp only[LN];omega) only[↓SB,S1,↓pu]
 refine ⟨fun h=>by simp[CN h],fun h=>?_⟩
 have hl:a.length=b.length:=by omega
 refine aw.rule (α:=Nat) (fun i=>[I i]) (fun i=>i≤a.length∧((a=b)=(a.drop i=b.drop i))) (fun i=>a.length-i) 0 rfl ⟨by omega,by simp⟩ (fun _=>rfl) ?_
 rintro i ⟨hl_i,hs_i⟩
 simp only[app]
 simp (disch:=first|omega|assumption|(constructor<;>first|assumption|omega)|simp only[LN];omega) only[↓SB,S1,↓pu]
 refine ⟨fun hc_i=>?_,fun hc_i=>?_⟩
 ·obtain ⟨x,hx⟩:=am hc_i
  obtain ⟨y,hy⟩:=am (xs:=b) (i:=i) (by omega)
  rw[az hx,az hy,List.cons.injEq] at hs_i
  simp (disch:=first|omega|assumption|(constructor<;>first|assumption|omega)|simp only[LN];omega) only[↓SB,S1,↓pu,ab hx,ab hy,Msg.eta]
  refine ⟨fun h3=>?_,fun h3=>⟨i+1,rfl,⟨by omega,by simpa[h3] using hs_i⟩,by omega⟩⟩
  have hn: ¬a=b:=fun e=>h3 (hs_i.mp e).1
  simp[hn]
 ·rw[aq hc_i,aq (by omega)] at hs_i
  simp[hs_i]
theorem T5(m:Msg):(isN m.frm&&isN m.to&& !decide (m.frm=m.to)&&cnt m.fromInc)=u7 m:=by
 unfold u7;simp
theorem RN(l:List Int):mX l=((l.all isN&&decide (l.length≤8))&&decide l.Nodup):=by
 unfold mX;rw[Bool.and_comm (decide _) (l.all isN)]
theorem Qn(a b:List Int):(decide a.Nodup&&decide b.Nodup&&decide (a++b).Nodup)=decide (a++b).Nodup:=by
 rw[Bool.eq_iff_iff]
 simp only[Bool.and_eq_true,decide_eq_true_eq,List.nodup_append]
 constructor
 ·rintro ⟨_,h⟩;exact h
 ·intro h;exact ⟨⟨h.1,h.2.1⟩,h⟩
theorem Uk{m:Msg}(k:m.kind=11)(he:u7 m=true)(h1:cnt m.toInc=true)(h2:0≤m.topic∧m.topic≤3) :
  gR m=(lZ m&&rng m.count 1 40&&(m.path.all isN&&decide (m.path.length≤8))&&(m.todo.all isN&&decide (m.todo.length≤8))&&decide (m.path++m.todo).Nodup&&decide (m.epoch=0)&&decide (m.seq=0)&&decide (m.last=0)):=by
 have h3:rng m.topic 0 3=true:=by unfold rng;simp;omega
 have hb:kH m=({ m with node:=0,inc:=0,count:=0,value:=0,hops:=0,path:=[],todo:=[] },lZ m&&rng m.count 1 40&&mX m.path&&mX m.todo&&decide (m.path++m.todo).Nodup):=by
  unfold kH
  rw[if_neg (by omega),if_neg (by omega),if_neg (by omega),if_neg (by omega),if_neg (by omega),if_neg (by omega),if_neg (by omega),if_neg (by omega),if_pos k]
 simp only[gR,hb,ln,he,h1,h3,k,rH,RN]
 rw[←Qn m.path m.todo]
 generalize (m.path.all isN&&decide (m.path.length≤8))=A
 generalize (m.todo.all isN&&decide (m.todo.length≤8))=B
 generalize (lZ m&&rng m.count 1 40)=C
 generalize decide (m.path++m.todo).Nodup=D
 generalize decide m.path.Nodup=E
 generalize decide m.todo.Nodup=F
 cases A<;>cases B<;>cases C<;>cases D<;>cases E<;>cases F<;>simp
theorem RO(n:Int):decide (0=n)=decide (n=0):=decide_eq_decide.2 eq_comm
theorem JP(n:Int):rng n 0 3=isT n:=by unfold rng isT;congr 1;exact decide_eq_decide.2 (by omega)
def bv:=And.intro @ij (And.intro @mj (And.intro @pu (And.intro @jw (And.intro @dV (And.intro @EX (And.intro @ng (And.intro @EW (@Cu))))))))
theorem MD(m:Msg)(hp:m.path.length≤30∧m.todo.length≤30)(hg:ag (iS m).2.1):WW ρ 16 uC iS m:=by
 simp only[iS,RR] at hg ⊢
 unfold uC
 simp only[ag,bV,aR] at hg
 generalize hE:gR m=q
 refine SUB.v1 (bb (!(rng m.kind 1 13&&u7 m))) ?_ ?_
 ·rw[←T5]
  repeat' (first | apply And.intro | intro _ | simp (disch:=first|omega|assumption|(constructor<;>first|assumption|omega)|simp only[LN];omega) only[↓SB,S1,↓bv])
  all_goals simp_all[rng]
  all_goals first | omega | skip
 cases hr:rng m.kind 1 13&&u7 m
 ·simp (disch:=first|omega|assumption|(constructor<;>first|assumption|omega)|simp only[LN];omega) only[↓SB,S1,↓bv]
  rw[←hE]
  have:gR m=false:=by
   rw[Bool.and_eq_false_iff] at hr
   rcases hr with hr | hr
   ·have h0: ¬(1≤m.kind∧m.kind≤13):=by simpa[rng] using hr
    have hb:kH m=(m,false):=by
     unfold kH
     rw[if_neg (by omega),if_neg (by omega),if_neg (by omega),if_neg (by omega),if_neg (by omega),if_neg (by omega),if_neg (by omega),if_neg (by omega),if_neg (by omega),if_neg (by omega),if_neg (by omega)]
    simp[gR,hb]
   ·simp[gR,ln,hr]
  rw[this]
 rw[Bool.and_eq_true] at hr
 obtain ⟨hk,he⟩:=hr
 have hkb:=aZ hk
 obtain ⟨hp1,hp2⟩:=hp
 have kk:m.kind=1∨m.kind=3∨m.kind=11∨m.kind=2∨m.kind=4∨m.kind=5∨m.kind=6∨m.kind=7∨m.kind=8∨m.kind=9∨m.kind=10∨m.kind=12∨m.kind=13:=by omega
 rcases kk with k | k | k | k | k | k | k | k | k | k | k | k | k
 ·simp (disch:=first|omega|assumption|(constructor<;>first|assumption|omega)|simp only[LN];omega) only[↓SB,S1,↓bv,k,Int.reduceEq]
  repeat' (first | apply And.intro | intro _ | simp (disch:=first|omega|assumption|(constructor<;>first|assumption|omega)|simp only[LN];omega) only[↓SB,S1,↓bv])
  all_goals (rw[←hE];clear hE)
  all_goals simp_all[gR,kH,ln,rH,lZ,u9,mX,Msg.eq_iff,Bool.and_assoc,RO,rng]
  all_goals first | (intros;omega) | skip
 ·simp (disch:=first|omega|assumption|(constructor<;>first|assumption|omega)|simp only[LN];omega) only[↓SB,S1,↓bv,k,Int.reduceEq]
  refine SUB.v1 (bb (!(cnt m.toInc&&isT m.topic))) ?_ ?_
  ·cases cnt m.toInc<;>simp
  cases hct:(cnt m.toInc&&isT m.topic)
  ·simp (disch:=first|omega|assumption|(constructor<;>first|assumption|omega)|simp only[LN];omega) only[↓SB,S1,↓bv]
   rw[←hE]
   simp only[Bool.and_eq_false_iff] at hct
   rcases hct with h | h<;>simp[gR,ln,k,h,JP]
  ·rw[Bool.and_eq_true] at hct
   have ht3:0≤m.topic∧m.topic≤3:=by have:=jy.1 hct.2;omega
   simp (disch:=first|omega|assumption|(constructor<;>first|assumption|omega)|simp only[LN];omega) only[↓SB,S1,↓bv]
   cases hpa:m.path with
   | nil =>
    repeat' (first | apply And.intro | intro _ | simp (disch:=first|omega|assumption|(constructor<;>first|assumption|omega)|simp only[LN];omega) only[↓SB,S1,↓bv])
    all_goals (rw[←hE];clear hE)
    all_goals simp_all[gR,kH,ln,rH,lZ,u9,mX,Msg.eq_iff,Bool.and_assoc,RO,rng]
    all_goals first | (intros;omega) | skip
   | cons p r =>
    have hc0:(L (p::r)).cellAt (I 0) 0=I p:=ab (i:=0) (x:=p) rfl
    rw[hpa] at hp1
    have hw3:=RN (p::r)
    generalize hA:((p::r).all isN&&decide ((p::r).length≤8))=A at hw3
    generalize hB:decide (p::r).Nodup=D at hw3
    have hm3:gR m=(rng m.epoch 0 1073741824&&cnt m.seq&&rng m.last 0 1073741824&&(A&&D)&&decide (p=m.frm)&&decide (m.value=0)&&decide (m.node=0)&&decide (m.inc=0)&&decide (m.count=0)&&decide (m.hops=0)&&decide (m.todo=[])):=by
     rw[←hw3]
     simp[gR,kH,ln,rH,k,he,hct.1,show rng m.topic 0 3=true by unfold rng;simp;omega,hpa,Bool.and_assoc]
    rw[hm3] at hE
    repeat' (first | apply And.intro | intro _ | simp (disch:=first|omega|assumption|(constructor<;>first|assumption|omega)|simp only[LN];omega) only[↓SB,S1,↓bv,hc0,hA,hB])
    all_goals (rw[←hE];clear hE)
    all_goals simp_all[Msg.eq_iff,Bool.and_assoc,RO,rng]
    all_goals first | (intros;omega) | skip
 ·simp (disch:=first|omega|assumption|(constructor<;>first|assumption|omega)|simp only[LN];omega) only[↓SB,S1,↓bv,k,Int.reduceEq]
  refine SUB.v1 (bb (!(cnt m.toInc&&isT m.topic))) ?_ ?_
  ·cases cnt m.toInc<;>simp
  cases hct:(cnt m.toInc&&isT m.topic)
  ·simp (disch:=first|omega|assumption|(constructor<;>first|assumption|omega)|simp only[LN];omega) only[↓SB,S1,↓bv]
   rw[←hE]
   simp only[Bool.and_eq_false_iff] at hct
   rcases hct with h | h<;>simp[gR,ln,k,h,JP]
  ·rw[Bool.and_eq_true] at hct
   have ht3:0≤m.topic∧m.topic≤3:=by have:=jy.1 hct.2;omega
   simp (disch:=first|omega|assumption|(constructor<;>first|assumption|omega)|simp only[LN];omega) only[↓SB,S1,↓bv]
   rw[Uk k he hct.1 ht3] at hE
   have hpq:(m.path++m.todo).length≤60:=by simp;omega
   have hpz:m.path.length≤1000000:=by omega
   generalize hA:(m.path.all isN&&decide (m.path.length≤8))=A at hE
   generalize hB:(m.todo.all isN&&decide (m.todo.length≤8))=B at hE
   generalize hD:decide (m.path++m.todo).Nodup=D at hE
   repeat' (first | apply And.intro | intro _ | simp (disch:=first|omega|assumption|(constructor<;>first|assumption|omega)|simp only[LN];omega) only[↓SB,S1,↓bv,hA,hB,hD])
   all_goals (rw[←hE];clear hE)
   all_goals simp_all[lZ,Msg.eq_iff,Bool.and_assoc,RO,rng]
   all_goals first | (intros;omega) | skip
 all_goals
  simp (disch:=first|omega|assumption|(constructor<;>first|assumption|omega)|simp only[LN];omega) only[↓SB,S1,↓bv,k,Int.reduceEq]
  refine SUB.v1 (bb (!(cnt m.toInc&&isT m.topic))) ?_ ?_
  ·cases cnt m.toInc<;>simp
  cases hct:(cnt m.toInc&&isT m.topic)
  ·simp (disch:=first|omega|assumption|(constructor<;>first|assumption|omega)|simp only[LN];omega) only[↓SB,S1,↓bv]
   rw[←hE]
   simp only[Bool.and_eq_false_iff] at hct
   rcases hct with h | h<;>simp[gR,ln,k,h,JP]
  ·rw[Bool.and_eq_true] at hct
   have ht3:0≤m.topic∧m.topic≤3:=by have:=jy.1 hct.2;omega
   simp (disch:=first|omega|assumption|(constructor<;>first|assumption|omega)|simp only[LN];omega) only[↓SB,S1,↓bv]
   repeat' (first | apply And.intro | intro _ | simp (disch:=first|omega|assumption|(constructor<;>first|assumption|omega)|simp only[LN];omega) only[↓SB,S1,↓bv])
   all_goals (rw[←hE];clear hE)
   all_goals simp_all[gR,kH,ln,rH,lZ,u9,mX,Msg.eq_iff,Bool.and_assoc,RO,rng]
   all_goals first | (intros;omega) | skip
end Go.Xt
end
section
set_option linter.unusedSimpArgs false
set_option linter.unusedVariables false
set_option maxRecDepth 100000
namespace Go.Xt
theorem D5{l:List Event}{limit:Int}{x:Event}(h:bh l limit=true)(hx:ec x=true)(hs:df x=false):tq l limit x=if (l.length:Int)<limit-1 then l++[x] else l:=by
 have hp:wE l limit x=if (l.length:Int)<limit-1 then (l++[x],0) else ([],6):=by
  unfold wE
  rw[if_pos (by rw[h,hx];rfl),hs]
  rfl
 unfold tq
 rw[hp]
 by_cases h3:(l.length:Int)<limit-1
 ·simp[h3]
 ·simp[h3]
end Go.Xt
end
