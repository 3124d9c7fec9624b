/- Steps towards the statements of this seat; the conditions stand in each theorem. -/
import Derived.Test.YtahdphncepnbeaaGreatDoorT
import Derived.Test.YtahdphncepnbeaaGreatDoorRho
section
set_option linter.unusedSimpArgs false
set_option linter.unusedVariables false
set_option maxRecDepth 100000
namespace Go.Xt
set_option linter.defProp false
theorem t8(v:Int):0≤nn v∧nn v<4611686018427387904:=by
 unfold nn NN
 match v.toNat with
 | 0=>simp | 1=>simp | 2=>simp | 3=>simp | 4=>simp | 5=>simp | 6=>simp | 7=>simp
 | n+8=>simp
theorem Hu(v:Int):0≤tt v∧tt v<4611686018427387904:=by
 unfold tt TT
 match v.toNat with
 | 0=>simp | 1=>simp | 2=>simp | 3=>simp
 | n+4=>simp
theorem iv{v:Int}:isN v=true↔0≤v∧v<8:=by simp[isN]
theorem rP{v:Int}:isT v=true↔0≤v∧v<4:=by simp[isT]
theorem Hv{v:Int}{k:PV→Prop}(h0:0≤v)(h1:v<8):OP .pickA [I v,I 2342812313538366385,I 1863050908023769503,I 81111313352671826,I 2434324899588211290,I 2454816673080883147,I 1342378062264523301,I 820659310660760249,I 2006264061484817761] k=k (I (nn v)):=by
 obtain ⟨n,rfl⟩:=Int.eq_ofNat_of_zero_le h0
 have:n<8:=by omega
 match n with
 | 0=>exact aq rfl | 1=>exact aq rfl | 2=>exact aq rfl | 3=>exact aq rfl | 4=>exact aq rfl | 5=>exact aq rfl | 6=>exact aq rfl | 7=>exact aq rfl
 | n+8=>omega
theorem Hw{v:Int}{k:PV→Prop}(h0:0≤v)(h1:v<4):OP .pickA [I v,I 1462484242049070477,I 1775212608919665246,I 3535639072113518480,I 3725500155902745375] k=k (I (tt v)):=by
 obtain ⟨n,rfl⟩:=Int.eq_ofNat_of_zero_le h0
 have:n<4:=by omega
 match n with
 | 0=>exact aq rfl | 1=>exact aq rfl | 2=>exact aq rfl | 3=>exact aq rfl
 | n+4=>omega
theorem DI(n:Int):WW ρ 1 qy iB n:=by
 simp only[iB,RR]
 unfold qy
 simp (disch:=first|omega|assumption|(constructor<;>first|assumption|omega)|simp only[LN];omega) only[↓SB,S1]
 refine ⟨fun h=>?_,fun h=>?_⟩ <;>simp[isN,h]
 try omega
theorem Ah(n:Int):WW ρ 1 mW fc n:=by
 simp only[fc,RR]
 unfold mW
 simp (disch:=first|omega|assumption|(constructor<;>first|assumption|omega)|simp only[LN];omega) only[↓SB,S1,↓cg]
 refine ⟨fun h=>?_,fun h=>?_⟩
 ·simp[h]
 ·rw[iv] at h
  rw[Hv h.1 h.2];simp[iv,h]
theorem xA(t:Int):WW ρ 1 kU dY t:=by
 simp only[dY,RR]
 unfold kU
 simp (disch:=first|omega|assumption|(constructor<;>first|assumption|omega)|simp only[LN];omega) only[↓SB,S1]
 refine ⟨fun h=>⟨fun h2=>?_,fun h2=>?_⟩,fun h=>?_⟩
 ·simp[isT,h];try omega
 ·rw[Hw h (by omega)];simp[rP,h];try omega
 ·simp[isT,h];try omega
theorem DJ(k:Int)(n:Int)(hp:0≤k∧k<4611686018427387904∧0≤n∧n<4611686018427387904):WW ρ 2 qz iC (k,n):=by
 simp only[iC,RR]
 unfold qz far
 obtain ⟨h1,h2,h3,h4⟩:=hp
 simp (disch:=first|omega|assumption|(constructor<;>first|assumption|omega)|simp only[LN];omega) only[↓SB,S1]
 refine ⟨fun h=>?_,fun h=>?_⟩
 ·simp[h]
 ·simp[h];try omega
def C6:=And.intro @lD (And.intro @jt (@nP))
theorem C7(t:Int)(n:Int):WW ρ 2 oH gn (t,n):=by
 simp only[gn,RR]
 unfold oH gap
 have:=Hu t;have:=t8 n
 simp (disch:=first|omega|assumption|(constructor<;>first|assumption|omega)|simp only[LN];omega) only[↓SB,S1,↓C6]
 cases h1:isT t<;>cases h2:isN n<;>simp
theorem uh(t:Int)(a:Int)(b:Int):WW ρ 3 jD dw (t,a,b):=by
 simp only[dw,RR]
 unfold jD eD
 simp (disch:=first|omega|assumption|(constructor<;>first|assumption|omega)|simp only[LN];omega) only[↓SB,S1,↓iZ]
 cases h1:isT t<;>cases h2:isN a<;>cases h3:isN b<;>simp
theorem np{t a b:Int}(h:eD t a b=true):(0≤t∧t<4)∧(0≤a∧a<8)∧(0≤b∧b<8)∧gap t a<gap t b:=by
 simp only[eD,Bool.and_eq_true,decide_eq_true_eq,rP,iv] at h
 exact ⟨h.1.1.1,h.1.1.2,h.1.2,h.2⟩
end Go.Xt
end
section
set_option linter.unusedSimpArgs false
set_option linter.unusedVariables false
set_option maxRecDepth 100000
namespace Go.Xt
set_option linter.defProp false
theorem C8(l:List Int)(hg:ay (eU l).2.1):WW ρ 1 oI eU l:=by
 simp only[eU,RR] at hg ⊢
 unfold oI
 simp only[ay,bK] at hg
 simp (disch:=first|omega|assumption|(constructor<;>first|assumption|omega)|simp only[LN];omega) only[↓SB,S1,↓cg]
 refine aO.rule (α:=Nat) (fun i=>[I i]) (fun i=>i≤l.length∧(l.drop i).all isN=l.all isN) (fun i=>l.length-i) 0 rfl ⟨by omega,rfl⟩ (fun _=>rfl) ?_
 rintro i ⟨h1,h2⟩
 simp only[app]
 simp (disch:=first|omega|assumption|(constructor<;>first|assumption|omega)|simp only[LN];omega) only[↓SB,S1,↓cg]
 refine ⟨fun h=>?_,fun h=>?_⟩
 ·obtain ⟨x,hx⟩:=aL h
  rw[aT hx,List.all_cons] at h2
  simp (disch:=first|omega|assumption|(constructor<;>first|assumption|omega)|simp only[LN];omega) only[↓SB,S1,↓cg,aB hx]
  refine ⟨fun h3=>?_,fun h3=>⟨i+1,rfl,⟨by omega,by simpa[h3] using h2⟩,by omega⟩⟩
  rw[h3] at h2;simp[←h2]
 ·rw[aQ h] at h2
  simp[←h2]
theorem xB(t:Int)(self:Int)(l:List Int)(hg:ay (cX (t,self,l)).2.1):WW ρ 3 kV cX (t,self,l):=by
 simp only[cX,RR] at hg ⊢
 unfold kV
 simp only[ay,bK] at hg
 simp (disch:=first|omega|assumption|(constructor<;>first|assumption|omega)|simp only[LN];omega) only[↓SB,S1,↓aJ]
 refine aO.rule (α:=Nat×Int) (fun a=>[I a.2,I a.1]) (fun a=>a.1≤l.length∧pJ t a.2 (l.drop a.1)=pJ t self l) (fun a=>l.length-a.1) (0,self) rfl ⟨by simp,rfl⟩ (fun _=>rfl) ?_
 rintro ⟨i,s⟩ ⟨h1,h2⟩
 simp only[app] at *
 simp (disch:=first|omega|assumption|(constructor<;>first|assumption|omega)|simp only[LN];omega) only[↓SB,S1,↓aJ]
 refine ⟨fun h=>?_,fun h=>?_⟩
 ·obtain ⟨x,hx⟩:=aL h
  rw[aT hx,pJ] at h2
  simp (disch:=first|omega|assumption|(constructor<;>first|assumption|omega)|simp only[LN];omega) only[↓SB,S1,↓aJ,aB hx]
  refine ⟨fun h3=>?_,fun h3=>⟨(i+1,x),rfl,⟨by simp;omega,by simpa[h3] using h2⟩,by simp;omega⟩⟩
  rw[h3] at h2;simp[←h2]
 ·rw[aQ h] at h2
  simp[←h2,pJ]
def pV:=And.intro @iZ (And.intro @oN (@xd))
theorem xC(t:Int)(self:Int)(l:List Int)(depth:Int)(hg:ay (cY (t,self,l,depth)).2.1):WW ρ 4 kW cY (t,self,l,depth):=by
 simp only[cY,RR] at hg ⊢
 unfold kW chk
 rw[iZ]
 refine SUB.v1 (bb (!(isT t&&isN self&&decide (1≤depth)&&decide (depth≤8)&&l.all isN))) ?_ ?_
 ·simp (disch:=first|omega|assumption|(constructor<;>first|assumption|omega)|simp only[LN];omega) only[↓SB,S1,↓pV]
  by_cases h3:1≤depth<;>by_cases h4:depth≤8<;>cases h1:isT t<;>cases h2:isN self<;>simp[h3,h4]<;>omega
 simp (disch:=first|omega|assumption|(constructor<;>first|assumption|omega)|simp only[LN];omega) only[↓SB,S1,↓pV]
 by_cases h:(isT t&&isN self&&decide (1≤depth)&&decide (depth≤8)&&l.all isN)=true
 ·rw[if_pos h];simp only[h]
  cases h5:pJ t self l<;>simp<;>omega
 ·rw[if_neg h];simp[h]
end Go.Xt
end
section
set_option linter.unusedSimpArgs false
set_option linter.unusedVariables false
set_option maxRecDepth 100000
namespace Go.Xt
set_option linter.defProp false
def rv:=And.intro @oc (@sS)
theorem rz(c:Config):WW ρ 7 gU cb c:=by
 simp only[cb,RR]
 unfold gU
 simp (disch:=first|omega|assumption|(constructor<;>first|assumption|omega)|simp only[LN];omega) only[↓SB,S1,↓rv]
 rw[oc]
 ·simp[jp,jm]
 ·simp
theorem FQ: ∀ {l:List Int},(∀e∈l,e=13)→dW l=if l=[] then 0 else 13
 | [],_=>by simp[dW]
 | e::r,h=>by
  have h9: ¬9∈e::r:=fun h'=>absurd (h 9 h') (by decide)
  simp only[dW,if_neg h9]
  simp[h e (by simp)]
theorem DK{n lo hi why:Int}:(jm n lo hi why=[])=(rng n lo hi=true):=by
 unfold jm rng
 by_cases h:n<lo∨hi<n
 ·rw[if_pos h];simp;omega
 ·rw[if_neg h];simp;omega
theorem DL{n lo hi why e:Int}(h:e∈jm n lo hi why):e=why:=by
 unfold jm at h;split at h<;>simp at h;exact h
theorem gv{n lo hi why:Int}:(jm n lo hi why).length≤1:=by unfold jm;split<;>simp
theorem DM(c:Config):dW (jp c)=if bM c=true then 0 else 13:=by
 rw[FQ]
 ·have:(jp c=[])=(bM c=true):=by
   simp only[jp,List.append_eq_nil_iff,DK,bM,Bool.and_eq_true]
  simp only[this]
 ·intro e h
  simp only[jp,List.mem_append] at h
  rcases h with (((((h | h) | h) | h) | h) | h) | h<;>exact DL h
def rA:=And.intro @sV (@rp)
theorem rB(c:Config):WW ρ 7 gV cd c:=by
 simp only[cd,RR]
 unfold gV
 have h:(jp c).length≤1000:=by
  have h1:=@gv c.nodes 1 8 13;have h2:=@gv c.topics 1 4 13;have h3:=@gv c.kids 1 4 13;have h4:=@gv c.depth 1 8 13
  have h5:=@gv c.keep 1 16 13;have h6:=@gv c.window 1 16 13;have h7:=@gv c.queue 2 32 13
  simp only[jp,List.length_append];omega
 simp (disch:=first|omega|assumption|(constructor<;>first|assumption|omega)|simp only[LN];omega) only[↓SB,S1,↓rA]
 exact congrArg (fun x=>[I x]) (DM c)
end Go.Xt
end
section
set_option linter.unusedSimpArgs false
set_option linter.unusedVariables false
set_option maxRecDepth 100000
namespace Go.Xt
set_option linter.defProp false
theorem EO(n:Int)(lo:Int)(hi:Int):WW ρ 3 sP kq (n,lo,hi):=by
 simp only[kq,RR]
 unfold sP rng
 simp (disch:=first|omega|assumption|(constructor<;>first|assumption|omega)|simp only[LN];omega) only[↓S0,S3,S2,S1]
 simp
theorem DN(n:Int)(lo:Int)(hi:Int):WW ρ 3 qA iD (n,lo,hi):=by
 simp only[iD,RR]
 unfold qA rng
 simp (disch:=first|omega|assumption|(constructor<;>first|assumption|omega)|simp only[LN];omega) only[↓S0,S3,S2,S1]
 simp
theorem ui(n:Int):WW ρ 1 jJ dy n:=by
 simp only[dy,RR]
 unfold jJ cnt
 simp (disch:=first|omega|assumption|(constructor<;>first|assumption|omega)|simp only[LN];omega) only[↓S0,S3,S2,S1,↓kr]
theorem Ai(n:Int):WW ρ 1 mY fg n:=by
 simp only[fg,RR]
 unfold mY val
 simp (disch:=first|omega|assumption|(constructor<;>first|assumption|omega)|simp only[LN];omega) only[↓S0,S3,S2,S1,↓kr]
theorem uj(e:Int):WW ρ 1 jI dx e:=by
 simp only[dx,RR]
 unfold jI
 repeat' (first | apply And.intro | intro _ | simp (disch:=first|omega|assumption|(constructor<;>first|assumption|omega)|simp only[LN];omega) only[↓SB,S1,↓cg])
 all_goals (simp_all[ep,rng];try omega)
theorem Aj(e:Int):WW ρ 1 mX fe e:=by
 simp only[fe,RR]
 unfold mX
 cases he:ep e
 ·simp (disch:=first|omega|assumption|(constructor<;>first|assumption|omega)|simp only[LN];omega) only[↓SB,S1,↓gD]
  simp[he]
 ·have h0:0≤e:=by simp only[ep,rng,Bool.and_eq_true,decide_eq_true_eq] at he;omega
  simp (disch:=first|omega|assumption|(constructor<;>first|assumption|omega)|simp only[LN];omega) only[↓SB,S1,↓gD]
  simp[he]
theorem xD(p:Peer):WW ρ 2 l7 dZ p:=by
 simp only[dZ,RR]
 unfold l7
 simp (disch:=first|omega|assumption|(constructor<;>first|assumption|omega)|simp only[LN];omega) only[↓S0,S3,S2,S1]
 simp[oD,rng,Bool.and_assoc]
def xE:=And.intro @aJ (@aS)
theorem xF(t:Int)(self:Int)(k:Kid):WW ρ 5 l9 ec (t,self,k):=by
 simp only[ec,RR]
 unfold l9
 simp (disch:=first|omega|assumption|(constructor<;>first|assumption|omega)|simp only[LN];omega) only[↓S0,S3,S2,S1,↓xE]
 simp[rng,Bool.and_assoc]
theorem xG(seq:Int)(want:Int)(window:Int)(hp:cnt want=true∧rng window 1 16=true):WW ρ 3 lf ed (seq,want,window):=by
 simp only[ed,RR]
 unfold lf
 obtain ⟨h1,h2⟩:=hp
 simp only[cnt,rng,Bool.and_eq_true,decide_eq_true_eq] at h1 h2
 simp (disch:=first|omega|assumption|(constructor<;>first|assumption|omega)|simp only[LN];omega) only[↓S0,S3,S2,S1]
 simp[Bool.and_assoc]
theorem xH(t:Int)(self:Int)(n:Int)(hg:ay (dk (t,self,n)).2.1):WW ρ 3 lj dk (t,self,n):=by
 simp only[dk,RR] at hg ⊢
 unfold lj
 simp only[ay,fG] at hg
 repeat' (first | apply And.intro | intro _ | simp (disch:=first|omega|assumption|(constructor<;>first|assumption|omega)|simp only[LN];omega) only[↓SB,S1,↓aJ])
 all_goals (simp_all[ij];try omega)
theorem tc(self:Int)(x:Topic):WW ρ 17 iT cN (self,x):=by
 simp only[cN,RR]
 unfold iT
 simp (disch:=first|omega|assumption|(constructor<;>first|assumption|omega)|simp only[LN];omega) only[↓S0,S3,S2,S1,↓zP]
 cases h0:decide (x.root=0)<;>cases h1:ep x.root<;>simp_all[oE,Bool.and_assoc]
theorem td(x:Topic)(hp:0≤x.parent∧x.parent≤8)(hg:ay (bP x).2.1):WW ρ 16 iU bP x:=by
 simp only[bP,RR] at hg ⊢
 unfold iU kn
 simp only[ay,fG,bK] at hg
 cases hx:x.path with
 | nil=>simp (disch:=first|omega|assumption|(constructor<;>first|assumption|omega)|simp only[LN];omega) only[↓SB,S1];simp
 | cons p r =>
  have h1: ¬((r.length:Int)+1=0):=by omega
  simp (disch:=first|omega|assumption|(constructor<;>first|assumption|omega)|simp only[LN];omega) only[↓SB,S1,D4,List.length_cons,Int.natCast_add,Int.cast_ofNat_Int,h1]
theorem Al(s:Stream):WW ρ 5 mZ fh s:=by
 simp only[fh,RR]
 unfold mZ pM
 simp (disch:=first|omega|assumption|(constructor<;>first|assumption|omega)|simp only[LN];omega) only[↓S0,S3,S2,S1]
 simp[Bool.and_assoc]
end Go.Xt
end
section
set_option linter.unusedSimpArgs false
set_option linter.unusedVariables false
set_option maxRecDepth 100000
namespace Go.Xt
set_option linter.defProp false
theorem xI(l:List Peer)(hg:ay (dc l).2.1):WW ρ 1 l8 dc l:=by
 simp only[dc,RR] at hg ⊢
 unfold l8 bf
 simp only[ay,bK] at hg
 simp (disch:=first|omega|assumption|(constructor<;>first|assumption|omega)|simp only[LN];omega) only[↓SB,S1,↓lE]
 refine ⟨fun h=>?_,fun h=>⟨fun h2=>?_,fun h2=>?_⟩⟩
 ·simp[show ¬1≤l.length by omega]
 ·simp[show ¬l.length≤8 by omega]
 have e1:decide (1≤l.length)=true:=by simp;omega
 have e2:decide (l.length≤8)=true:=by simp;omega
 have e3:decide ((8:Int)<l.length)=false:=by simp;omega
 simp only[e1,e2,e3,Bool.true_and]
 refine aO.rule (α:=Nat) (fun i=>[I i]) (fun i=>i≤l.length∧(l.drop i).all (oD)=l.all (oD)) (fun i=>l.length-i) 0 rfl ⟨by omega,by simp⟩ (fun _=>rfl) ?_
 rintro i ⟨hl_i,hs_i⟩
 simp only[app]
 simp (disch:=first|omega|assumption|(constructor<;>first|assumption|omega)|simp only[LN];omega) only[↓SB,S1,↓lE]
 refine ⟨fun hc_i=>?_,fun hc_i=>?_⟩
 ·obtain ⟨x,hx⟩:=aL hc_i
  rw[aT hx,List.all_cons] at hs_i
  simp (disch:=first|omega|assumption|(constructor<;>first|assumption|omega)|simp only[LN];omega) only[↓SB,S1,↓lE,aB hx]
  refine ⟨fun h3=>?_,fun h3=>⟨i+1,rfl,⟨by omega,by simpa[h3] using hs_i⟩,by omega⟩⟩
  rw[h3,Bool.false_and] at hs_i;simp[←hs_i,fI]
 ·rw[aQ hc_i] at hs_i
  simp only[←hs_i];simp[h2,aK]
theorem dlt(a b:Int):decide (a<b)= !decide (b≤a):=by rw[Bool.eq_iff_iff];simp
theorem oO{t a b c:Int}(h1:eD t a b=true)(h2:eD t b c=true):eD t a c=true:=by
 obtain ⟨a1,a2,a3,a4⟩:=np h1
 obtain ⟨b1,b2,b3,b4⟩:=np h2
 simp only[eD,Bool.and_eq_true,decide_eq_true_eq,rP,iv]
 exact ⟨⟨⟨a1,a2⟩,b3⟩,by omega⟩
theorem Am{t a:Int}{k:Kid}{r:List Kid}:dC t a (k::r)=(eD t a k.node&&cnt k.inc&&rng k.age 0 6&&dC t k.node r):=rfl
def ek:=And.intro @aJ (And.intro @iZ (@xh))
theorem xJ(t:Int)(self:Int)(limit:Int)(l:List Kid)(hg:ay (de (t,self,limit,l)).2.1):WW ρ 4 lb de (t,self,limit,l):=by
 simp only[de,RR] at hg ⊢
 unfold lb jB
 simp only[ay,fG,bK] at hg
 rw[iZ]
 refine SUB.v1 (bb (!(isT t&&isN self&&rng limit 1 4&&decide ((l.length:Int)≤limit)))) ?_ ?_
 ·cases h1:(isT t&&isN self)
  ·simp (disch:=first|omega|assumption|(constructor<;>first|assumption|omega)|simp only[LN];omega) only[↓SB,S1,↓ek,h1]
   simp
  ·repeat' (first | apply And.intro | intro _ | simp (disch:=first|omega|assumption|(constructor<;>first|assumption|omega)|simp only[LN];omega) only[↓SB,S1,↓ek])
   all_goals (simp_all[rng];try (first | omega | exact dlt _ _))
 simp (disch:=first|omega|assumption|(constructor<;>first|assumption|omega)|simp only[LN];omega) only[↓SB,S1,↓ek]
 refine ⟨fun h=>by simp[h],fun h=>?_⟩
 simp only[h,Bool.true_and]
 refine aO.rule (α:=Nat) (fun i=>[I i]) (fun i=>i≤l.length∧ ∃p,(i=0→p=self)∧(0<i→ ∃k,l[i-1]? =some k∧p=k.node∧eD t self p=true)∧dC t p (l.drop i)=dC t self l) (fun i=>l.length-i) 0 rfl ⟨by omega,self,by simp⟩ (fun _=>rfl) ?_
 rintro i ⟨hl,p,hp0,hp1,hs⟩
 simp only[app]
 simp (disch:=first|omega|assumption|(constructor<;>first|assumption|omega)|simp only[LN];omega) only[↓SB,S1,↓ek]
 refine ⟨fun hc=>?_,fun hc=>?_⟩
 ·obtain ⟨x,hx⟩:=aL hc
  rw[aT hx,Am] at hs
  simp (disch:=first|omega|assumption|(constructor<;>first|assumption|omega)|simp only[LN];omega) only[↓SB,S1,↓ek,aB hx]
  refine ⟨fun h3=>?_,fun h3=>⟨fun h4=>?_,fun h4=>?_⟩⟩
  ·have hf:dC t self l=false:=by
    rw[←hs]
    cases hn:eD t p x.node with
    | false=>simp
    | true =>
     have hns:eD t self x.node=true:=by
      rcases Nat.eq_zero_or_pos i with h0 | h0
      ·rw[←hp0 h0];exact hn
      ·obtain ⟨k,_,_,hk⟩:=hp1 h0;exact oO hk hn
     rw[hns] at h3
     cases h5:cnt x.inc<;>cases h6:rng x.age 0 6<;>simp_all
   rw[hf];simp
  ·simp only[Bool.and_eq_true] at h3
   obtain ⟨⟨h5,h6⟩,h7⟩:=h3
   obtain ⟨k,hk,rfl,hnk⟩:=hp1 (by omega)
   have e1:((i:Int)-1)=((i-1:Nat):Int):=by omega
   simp (disch:=first|omega|assumption|(constructor<;>first|assumption|omega)|simp only[LN];omega) only[↓SB,S1,↓ek,e1,aB hk]
   refine ⟨fun h8=>?_,fun h8=>⟨i+1,by simp,⟨by omega,x.node,by simp,fun _=>⟨x,by simpa using hx,rfl,h5⟩,?_⟩,by omega⟩⟩
   ·rw[←hs,h8];simp
   ·rw[←hs,h8,h6,h7];simp
  ·simp only[Bool.and_eq_true] at h3
   obtain ⟨⟨h5,h6⟩,h7⟩:=h3
   have h0:i=0:=by omega
   rw[hp0 h0] at hs
   refine ⟨i+1,by simp,⟨by omega,x.node,by simp,fun _=>⟨x,by simpa using hx,rfl,h5⟩,?_⟩,by omega⟩
   rw[←hs,h5,h6,h7];simp
 ·rw[aQ hc] at hs
  simp[←hs,dC]
end Go.Xt
end
section
set_option linter.unusedSimpArgs false
set_option linter.unusedVariables false
set_option maxRecDepth 100000
namespace Go.Xt
set_option linter.defProp false
theorem An{n:Int}{x:Item}{r:List Item}:kR n (x::r)=(decide (x.seq=n)&&val x.value&&kR (n+1) r):=rfl
theorem C9{m p:Int}{x:Item}{r:List Item}:pK m p (x::r)=(decide (p<x.seq)&&decide (x.seq<m)&&decide (x.seq<1073741824)&&val x.value&&pK m x.seq r):=rfl
theorem EP{n:Int}(h:cnt n=true):1≤n∧n≤1073741824:=by simpa[cnt,rng] using h
theorem cO{n a b:Int}(h:rng n a b=true):a≤n∧n≤b:=by simpa[rng] using h
theorem xK(l:List Item)(want:Int)(hp:cnt want=true∧l.length≤16)(hg:ay (df (l,want)).2.1):WW ρ 2 lc df (l,want):=by
 simp only[df,RR] at hg ⊢
 unfold lc
 obtain ⟨hw,hl16⟩:=hp
 have hw:=EP hw
 simp (disch:=first|omega|assumption|(constructor<;>first|assumption|omega)|simp only[LN];omega) only[↓SB,S1,↓cS]
 refine aO.rule (α:=Nat) (fun i=>[I i]) (fun i=>i≤l.length∧(0<i→(l.length:Int)<want)∧kR (want-l.length+i) (l.drop i)=kR (want-l.length) l) (fun i=>l.length-i) 0 rfl ⟨by omega,by omega,by simp⟩ (fun _=>rfl) ?_
 rintro i ⟨hl,hpos,hs⟩
 simp only[app]
 simp (disch:=first|omega|assumption|(constructor<;>first|assumption|omega)|simp only[LN];omega) only[↓SB,S1,↓cS]
 refine ⟨fun hc=>?_,fun hc=>?_⟩
 ·obtain ⟨x,hx⟩:=aL hc
  rw[aT hx,An] at hs
  simp (disch:=first|omega|assumption|(constructor<;>first|assumption|omega)|simp only[LN];omega) only[↓SB,S1,↓cS,aB hx]
  refine ⟨fun h1=>?_,fun h1=>⟨fun h2=>?_,fun h2=>⟨fun h3=>?_,fun h3=>⟨i+1,by simp,⟨by omega,fun _=>?_,?_⟩,by omega⟩⟩⟩⟩
  ·rw[←hs]
   by_cases h2:x.seq=want-l.length+i
   ·have: ¬(l.length:Int)<want:=fun h=>by omega
    simp[this]
   ·simp[h2]
  ·rw[←hs];simp[h2]
  ·rw[←hs];simp[h3]
  ·rcases Nat.eq_zero_or_pos i with h0 | h0
   ·subst h0;omega
   ·exact hpos h0
  ·rw[←hs,h3];simp[h2,Int.add_assoc]
 ·rw[aQ hc] at hs
  rw[←hs]
  have:(l.length:Int)<want:=by
   rcases Nat.eq_zero_or_pos i with h0 | h0
   ·omega
   ·exact hpos h0
  simp[this,kR]
def lI:=And.intro @aS (@xi)
theorem xL(l:List Item)(want:Int)(limit:Int)(hg:ay (dg (l,want,limit)).2.1):WW ρ 3 ld dg (l,want,limit):=by
 simp only[dg,RR] at hg ⊢
 unfold ld sH
 simp only[ay,fG,bK] at hg
 cases h1:cnt want
 ·simp (disch:=first|omega|assumption|(constructor<;>first|assumption|omega)|simp only[LN];omega) only[↓SB,S1,↓lI,h1]
  simp
 cases h2:(rng limit 1 16&&decide ((l.length:Int)≤limit))
 ·repeat' (first | apply And.intro | intro _ | simp (disch:=first|omega|assumption|(constructor<;>first|assumption|omega)|simp only[LN];omega) only[↓SB,S1,↓lI])
  all_goals (simp_all[rng];try omega)
 ·simp only[Bool.and_eq_true,decide_eq_true_eq] at h2
  have h3:=cO h2.1
  rw[h2.1]
  simp (disch:=first|omega|assumption|(constructor<;>first|assumption|omega)|simp only[LN];omega) only[↓SB,S1,↓lI,h1]
  have e1: ¬limit<1:=by omega
  have e2: ¬16<limit:=by omega
  have e3: ¬limit<(l.length:Int):=by omega
  have e4:decide ((l.length:Int)≤limit)=true:=by simp;omega
  refine ⟨fun h=>absurd h e1,fun _=>⟨fun h=>absurd h e2,fun _=>⟨fun h=>absurd h e3,fun _=>?_⟩⟩⟩
  cases h5:(decide ((l.length:Int)<want)&&kR (want-l.length) l)<;>simp_all
def eG:=And.intro @cS (And.intro @aS (@xk))
theorem uk(l:List Item)(want:Int)(window:Int)(hg:ay (cz (l,want,window)).2.1):WW ρ 3 jK cz (l,want,window):=by
 simp only[cz,RR] at hg ⊢
 unfold jK pL
 simp only[ay,fG,bK] at hg
 refine SUB.v1 (bb (!(cnt want&&rng window 1 16))) ?_ ?_
 ·repeat' (first | apply And.intro | intro _ | simp (disch:=first|omega|assumption|(constructor<;>first|assumption|omega)|simp only[LN];omega) only[↓SB,S1,↓eG])
  all_goals (simp_all[rng];try (first | omega | exact dlt _ _))
 simp (disch:=first|omega|assumption|(constructor<;>first|assumption|omega)|simp only[LN];omega) only[↓SB,S1,↓eG]
 refine ⟨fun h=>by simp[h],fun h=>?_⟩
 simp only[h,Bool.true_and]
 simp only[Bool.and_eq_true,decide_eq_true_eq] at h
 obtain ⟨h1',h2'⟩:=h
 have h1:=EP h1'
 have h2:=cO h2'
 refine aO.rule (α:=Nat) (fun i=>[I i]) (fun i=>i≤l.length∧ ∃p,(i=0→p=want)∧(0<i→ ∃k,l[i-1]? =some k∧p=k.seq)∧want≤p∧pK (want+window) p (l.drop i)=pK (want+window) want l) (fun i=>l.length-i) 0 rfl ⟨by omega,want,by simp⟩ (fun _=>rfl) ?_
 rintro i ⟨hl,p,hp0,hp1,hwp,hs⟩
 simp only[app]
 simp (disch:=first|omega|assumption|(constructor<;>first|assumption|omega)|simp only[LN];omega) only[↓SB,S1,↓eG]
 refine ⟨fun hc=>?_,fun hc=>?_⟩
 ·obtain ⟨x,hx⟩:=aL hc
  rw[aT hx,C9] at hs
  simp (disch:=first|omega|assumption|(constructor<;>first|assumption|omega)|simp only[LN];omega) only[↓SB,S1,↓eG,aB hx]
  refine ⟨fun h3=>?_,fun h3=>⟨fun h4=>?_,fun h4=>⟨fun h5=>?_,fun h5=>?_⟩⟩⟩
  ·have:(decide (p<x.seq)&&decide (x.seq<want+window)&&decide (x.seq<1073741824))=false:=by
    rw[Bool.eq_false_iff] at h3 ⊢
    intro h6;apply h3
    simp only[Bool.and_eq_true,decide_eq_true_eq] at h6 ⊢
    omega
   rw[←hs,this];simp
  ·rw[←hs,h4];simp
  ·obtain ⟨k,hk,rfl⟩:=hp1 (by omega)
   have e1:((i:Int)-1)=((i-1:Nat):Int):=by omega
   simp (disch:=first|omega|assumption|(constructor<;>first|assumption|omega)|simp only[LN];omega) only[↓SB,S1,↓eG,e1,aB hk]
   simp only[Bool.and_eq_true,decide_eq_true_eq] at h3
   refine ⟨fun h8=>?_,fun h8=>⟨i+1,by simp,⟨by omega,x.seq,by simp,fun _=>⟨x,by simpa using hx,rfl⟩,by omega,?_⟩,by omega⟩⟩
   ·rw[←hs];simp[show ¬k.seq<x.seq by omega]
   ·rw[←hs,h4];simp[show k.seq<x.seq by omega,h3]
  ·have h0:i=0:=by omega
   rw[hp0 h0] at hs
   simp only[Bool.and_eq_true,decide_eq_true_eq] at h3
   refine ⟨i+1,by simp,⟨by omega,x.seq,by simp,fun _=>⟨x,by simpa using hx,rfl⟩,by omega,?_⟩,by omega⟩
   rw[←hs,h4];simp[h3]
 ·rw[aQ hc] at hs
  simp[←hs,pK]
end Go.Xt
end
section
set_option linter.unusedSimpArgs false
set_option linter.unusedVariables false
set_option maxRecDepth 100000
namespace Go.Xt
set_option linter.defProp false
def dB:=And.intro @cS (And.intro @cg (And.intro @aS (@gD)))
theorem ul(x:Event):WW ρ 6 jL dz x:=by
 simp only[dz,RR]
 unfold jL
 generalize hE:iQ x=q
 unfold iQ at hE
 by_cases k1:x.kind=1
 ·rw[cr,decide_eq_true k1,fI]
  simp (disch:=first|omega|assumption|(constructor<;>first|assumption|omega)|simp only[LN];omega) only[↓S0,S3,S2,S1,↓dB,k1]
  simp only[k1,if_true] at hE
  subst hE
  cases ep x.epoch<;>cases cnt x.seq<;>cases val x.value<;>by_cases h1:x.last=0<;>by_cases h2:x.count=0<;>simp[h1,h2]
 by_cases k2:x.kind=2
 ·rw[cr,decide_eq_false k1,aK,cr,decide_eq_true k2,fI]
  simp (disch:=first|omega|assumption|(constructor<;>first|assumption|omega)|simp only[LN];omega) only[↓S0,S3,S2,S1,↓dB,k2]
  simp only[k2,if_true] at hE
  simp at hE
  subst hE
  cases ep x.epoch<;>cases cnt x.seq<;>by_cases h3:x.seq≤x.last<;>by_cases h4:x.last≤1073741824<;>by_cases h1:x.value=0<;>by_cases h2:x.count=0<;>simp[h1,h2,h3,h4,rng]
 by_cases k3:x.kind=3
 ·rw[cr,decide_eq_false k1,aK,cr,decide_eq_false k2,aK,cr,decide_eq_true k3,fI]
  simp (disch:=first|omega|assumption|(constructor<;>first|assumption|omega)|simp only[LN];omega) only[↓S0,S3,S2,S1,↓dB,k3]
  simp[k3] at hE
  subst hE
  cases isN x.value<;>by_cases h3:1≤x.count<;>by_cases h4:x.count≤40<;>by_cases h1:x.epoch=0<;>by_cases h2:x.seq=0<;>by_cases h5:x.last=0<;>simp[h1,h2,h3,h4,h5,rng]
 by_cases k4:x.kind=4
 ·rw[cr,decide_eq_false k1,aK,cr,decide_eq_false k2,aK,cr,decide_eq_false k3,aK,cr,decide_eq_true k4,fI]
  simp (disch:=first|omega|assumption|(constructor<;>first|assumption|omega)|simp only[LN];omega) only[↓S0,S3,S2,S1,↓dB,k4]
  simp[k4] at hE
  subst hE
  by_cases h3:1≤x.count<;>by_cases h4:x.count≤40<;>by_cases h1:x.epoch=0<;>by_cases h2:x.seq=0<;>by_cases h5:x.last=0<;>by_cases h6:x.value=0<;>simp[h1,h2,h3,h4,h5,h6,rng]
 by_cases k5:x.kind=5
 ·rw[cr,decide_eq_false k1,aK,cr,decide_eq_false k2,aK,cr,decide_eq_false k3,aK,cr,decide_eq_false k4,aK,cr,decide_eq_true k5,fI]
  simp (disch:=first|omega|assumption|(constructor<;>first|assumption|omega)|simp only[LN];omega) only[↓S0,S3,S2,S1,↓dB,k5]
  simp[k5] at hE
  subst hE
  by_cases h3:x.count=0<;>by_cases h1:x.epoch=0<;>by_cases h2:x.seq=0<;>by_cases h5:x.last=0<;>by_cases h6:x.value=0<;>simp[h1,h2,h3,h5,h6]
 ·rw[cr,decide_eq_false k1,aK,cr,decide_eq_false k2,aK,cr,decide_eq_false k3,aK,cr,decide_eq_false k4,aK,cr,decide_eq_false k5,aK]
  simp (disch:=first|omega|assumption|(constructor<;>first|assumption|omega)|simp only[LN];omega) only[↓S0,S3,S2,S1,↓dB]
  simp[k1,k2,k3,k4,k5] at hE
  subst hE
  simp
end Go.Xt
end
section
set_option linter.unusedSimpArgs false
set_option linter.unusedVariables false
set_option maxRecDepth 100000
namespace Go.Xt
set_option linter.defProp false
theorem Ao{l:List Event}{x:Event}(h:l[l.length-1]? =some x):ii l=decide (x.kind=2):=by
 unfold ii
 rw[List.getLast?_eq_getElem?,h]
theorem EQ{α:Type}{l:List α}(h:0<l.length): ∃x,l[l.length-1]? =some x:=⟨l[l.length-1]'(by omega),by simp[show l.length-1<l.length by omega]⟩
theorem um(l:List Event)(limit:Int)(hg:ay (cA (l,limit)).2.1):WW ρ 2 jM cA (l,limit):=by
 simp only[cA,RR] at hg ⊢
 unfold jM
 simp only[ay,fG,bK] at hg
 refine SUB.v1 (bb (!(rng limit 2 32&&decide ((l.length:Int)≤limit)))) ?_ ?_
 ·repeat' (first | apply And.intro | intro _ | simp (disch:=first|omega|assumption|(constructor<;>first|assumption|omega)|simp only[LN];omega) only[↓SB,S1,↓bw])
  all_goals (simp_all[rng];try (first | omega | exact dlt _ _))
 cases hr:(rng limit 2 32&&decide ((l.length:Int)≤limit))
 ·refine SUB.v1 (bb true) (by simp (disch:=first|omega|assumption|(constructor<;>first|assumption|omega)|simp only[LN];omega) only[↓SB,S1,↓bw]) ?_
  simp (disch:=first|omega|assumption|(constructor<;>first|assumption|omega)|simp only[LN];omega) only[↓SB,S1,↓bw]
  simp[bW,hr]
 simp only[Bool.and_eq_true,decide_eq_true_eq] at hr
 have hb:=cO hr.1
 refine SUB.v1 (bb (!(l.all iQ))) ?_ ?_
 ·simp (disch:=first|omega|assumption|(constructor<;>first|assumption|omega)|simp only[LN];omega) only[↓SB,S1,↓bw]
  refine aO.rule (α:=Nat) (fun i=>[I i]) (fun i=>i≤l.length∧(l.drop i).all (iQ)=l.all (iQ)) (fun i=>l.length-i) 0 rfl ⟨by omega,by simp⟩ (fun _=>rfl) ?_
  rintro i ⟨hl_i,hs_i⟩
  simp only[app]
  simp (disch:=first|omega|assumption|(constructor<;>first|assumption|omega)|simp only[LN];omega) only[↓SB,S1,↓bw]
  refine ⟨fun hc_i=>?_,fun hc_i=>?_⟩
  ·obtain ⟨x,hx⟩:=aL hc_i
   rw[aT hx,List.all_cons] at hs_i
   simp (disch:=first|omega|assumption|(constructor<;>first|assumption|omega)|simp only[LN];omega) only[↓SB,S1,↓bw,aB hx]
   refine ⟨fun h3=>?_,fun h3=>⟨i+1,rfl,⟨by omega,by rw[←hs_i];cases he:iQ x<;>simp_all⟩,by omega⟩⟩
   have:iQ x=false:=by cases he:iQ x<;>simp_all
   rw[←hs_i,this];simp
  ·rw[aQ hc_i] at hs_i
   rw[←hs_i];simp
 simp (disch:=first|omega|assumption|(constructor<;>first|assumption|omega)|simp only[LN];omega) only[↓SB,S1,↓bw]
 unfold bW
 refine ⟨fun h=>by simp[h],fun h=>⟨fun h2=>?_,fun h2=>?_⟩⟩
 ·have h0:0<l.length:=by omega
  obtain ⟨x,hx⟩:=EQ h0
  have e1:limit-1=((l.length-1:Nat):Int):=by omega
  simp (disch:=first|omega|assumption|(constructor<;>first|assumption|omega)|simp only[LN];omega) only[↓SB,S1,↓bw,e1,aB hx]
  have e2:decide ((l.length:Int)<limit)=false:=by simp;omega
  rw[Ao hx,hr.1,e2,h]
  by_cases hk:x.kind=2<;>simp[hk]<;>omega
 ·have e2:decide ((l.length:Int)<limit)=true:=by simp;omega
  have e3:decide ((l.length:Int)≤limit)=true:=by simp;omega
  rw[hr.1,e2,e3,h];simp
def xM:=And.intro @aS (And.intro @gD (And.intro @ue (And.intro @xj (@zQ))))
theorem xN(c:Config)(s:Stream)(hg:ay (dh (c,s)).2.1):WW ρ 12 lg dh (c,s):=by
 simp only[dh,RR] at hg ⊢
 unfold lg
 simp (disch:=first|omega|assumption|(constructor<;>first|assumption|omega)|simp only[LN];omega) only[↓S0,S3,S2,S1,↓xM]
 unfold mR
 cases pM s<;>cases ep s.epoch<;>cases cnt s.want<;>cases sH s.kept s.want c.keep<;>cases pL s.ahead s.want c.window<;>simp[rng]
def xO:=And.intro @gY (And.intro @od (@xl))
theorem xP(c:Config)(s:Stream)(q:List Event)(hg:ay (dj (c,s,q)).2.1):WW ρ 13 lh dj (c,s,q):=by
 simp only[dj,RR] at hg ⊢
 unfold lh
 simp (disch:=first|omega|assumption|(constructor<;>first|assumption|omega)|simp only[LN];omega) only[↓S0,S3,S2,S1,↓xO]
 unfold mS
 cases bM c<;>cases mR c s<;>cases bW q c.queue<;>simp
def eH:=And.intro @iq (And.intro @xn (And.intro @sX (And.intro @sY (And.intro @xe (@xm)))))
theorem uo(c:Config)(t:Int)(self:Int)(x:Topic)(hp:bM c=true)(hg:ay (cB (c,t,self,x)).2.1):WW ρ 25 jN cB (c,t,self,x):=by
 simp only[cB,RR] at hg ⊢
 unfold jN
 generalize hE:aC c t self x=q
 refine SUB.v1 (bb (!(rng x.top 0 1073741824&&rng x.age 0 1000))) ?_ ?_
 ·repeat' (first | apply And.intro | intro _ | simp (disch:=first|omega|assumption|(constructor<;>first|assumption|omega)|simp only[LN];omega) only[↓SB,S1,↓eH])
  all_goals (simp_all[rng];try (first | omega | exact dlt _ _))
 unfold aC at hE
 cases h1:(rng x.top 0 1073741824&&rng x.age 0 1000)
 ·rw[h1] at hE
  simp (disch:=first|omega|assumption|(constructor<;>first|assumption|omega)|simp only[LN];omega) only[↓SB,S1,↓eH]
  simp[←hE]
 rw[Bool.not_true,aK]
 refine SUB.v1 (bb (ij t self x.parent&&ij t self x.asked&&ij t self x.other)) ?_ ?_
 ·simp (disch:=first|omega|assumption|(constructor<;>first|assumption|omega)|simp only[LN];omega) only[↓S0,S3,S2,S1,↓eH]
  simp[Bool.and_assoc]
 cases h2:(ij t self x.parent&&ij t self x.asked&&ij t self x.other)
 ·simp (disch:=first|omega|assumption|(constructor<;>first|assumption|omega)|simp only[LN];omega) only[↓SB,S1,↓eH]
  rw[←hE]
  cases h3:ij t self x.parent<;>cases h4:ij t self x.asked<;>cases h5:ij t self x.other<;>simp_all
 simp only[Bool.and_eq_true] at h2
 have hpar:0≤x.parent∧x.parent≤8:=by
  have:=h2.1.1
  simp only[ij,Bool.or_eq_true,Bool.and_eq_true,decide_eq_true_eq] at this
  rcases this with h | ⟨h,h'⟩
  ·omega
  ·have:=(np h').2.1;omega
 rw[h1] at hE
 rw[h2.1.1,h2.1.2,h2.2] at hE
 simp (disch:=first|omega|assumption|(constructor<;>first|assumption|omega)|simp only[LN];omega) only[↓S0,S3,S2,S1,↓eH,hp]
 rw[←hE]
 cases oE self x<;>cases kn x<;>cases jB t self c.kids x.kids<;>cases mS c x.stream x.queue<;>by_cases h9:chk t self x.path c.depth=0<;>simp[h9]
def oh:=And.intro @gY (@uf)
theorem uq(c:Config)(t:Int)(self:Int)(x:Topic)(hg:ay (cC (c,t,self,x)).2.1):WW ρ 25 jO cC (c,t,self,x):=by
 simp only[cC,RR] at hg ⊢
 unfold jO
 cases hc:bM c
 ·simp (disch:=first|omega|assumption|(constructor<;>first|assumption|omega)|simp only[LN];omega) only[↓SB,S1,↓oh,hc]
  simp
 ·simp (disch:=first|omega|assumption|(constructor<;>first|assumption|omega)|simp only[LN];omega) only[↓SB,S1,↓oh,hc]
  unfold eE
  refine ⟨fun h=>?_,fun h=>⟨fun h1=>?_,fun h1=>⟨fun h2=>?_,fun h2=>⟨fun h3=>?_,fun h3=>?_⟩⟩⟩⟩
  ·simp[rng,show ¬0≤t by omega]
  ·simp[rng,show ¬t≤c.topics-1 by omega]
  ·simp[rng,show ¬0≤self by omega]
  ·simp[rng,show ¬self≤c.nodes-1 by omega]
  ·have e1:rng t 0 (c.topics-1)=true:=by simp[rng];omega
   have e2:rng self 0 (c.nodes-1)=true:=by simp[rng];omega
   rw[e1,e2]
   cases aC c t self x<;>simp
end Go.Xt
end
section
set_option linter.unusedSimpArgs false
set_option linter.unusedVariables false
set_option maxRecDepth 100000
namespace Go.Xt
set_option linter.defProp false
theorem nq{c:Config}(h:bM c=true):(1≤c.nodes∧c.nodes≤8)∧(1≤c.topics∧c.topics≤4)∧(1≤c.kids∧c.kids≤4)∧(1≤c.depth∧c.depth≤8)∧(1≤c.keep∧c.keep≤16)∧(1≤c.window∧c.window≤16)∧(2≤c.queue∧c.queue≤32):=by
 simp only[bM,rng,Bool.and_eq_true,decide_eq_true_eq] at h
 obtain ⟨⟨⟨⟨⟨⟨a,b⟩,d⟩,e⟩,f⟩,g⟩,i⟩:=h
 exact ⟨a,b,d,e,f,g,i⟩
theorem Ap{c:Config}{t self:Int}(hc:bM c=true)(h:eE c t self=true):isT t=true∧isN self=true∧(0≤t∧t<c.topics)∧(0≤self∧self<c.nodes):=by
 have hb:=nq hc
 simp only[eE,Bool.and_eq_true] at h
 have h1:=cO h.1;have h2:=cO h.2
 exact ⟨rP.2 (by omega),iv.2 (by omega),by omega,by omega⟩
theorem nQ{t self n:Int}(h:ij t self n=true):0≤n∧n≤8:=by
 simp only[ij,Bool.or_eq_true,Bool.and_eq_true,decide_eq_true_eq] at h
 rcases h with h | ⟨h,h'⟩
 ·omega
 ·have:=(np h').2.1;omega
theorem Aq(m:Mark):WW ρ 3 n5 fi m:=by
 simp only[fi,RR]
 unfold n5
 simp (disch:=first|omega|assumption|(constructor<;>first|assumption|omega)|simp only[LN];omega) only[↓S0,S3,S2,S1,↓dA]
 simp[oF,Bool.and_assoc]
def xQ:=And.intro @cS (And.intro @dA (@aS))
theorem xR(c:Config)(x:Mark2)(hp:bM c=true):WW ρ 12 ll ee (c,x):=by
 simp only[ee,RR]
 unfold ll
 have hb:=nq hp
 simp (disch:=first|omega|assumption|(constructor<;>first|assumption|omega)|simp only[LN];omega) only[↓S0,S3,S2,S1,↓xQ]
 simp[nO,Bool.and_assoc]
theorem xS{c:Config}{asks p:Int}{x:Call}{r:List Call}:dX c asks p (x::r)=(decide (p<x.count)&&decide (x.count≤asks)&&rng x.topic 0 (c.topics-1)&&rng x.age 0 20&&dX c asks x.count r):=rfl
theorem xU(c:Config)(n:Node)(hp:bM c=true)(hg:ay (dl (c,n)).2.1):WW ρ 16 lk dl (c,n):=by
 simp only[dl,RR] at hg ⊢
 unfold lk
 have hb:=nq hp
 simp only[ay,fG,bK] at hg
 simp (disch:=first|omega|assumption|(constructor<;>first|assumption|omega)|simp only[LN];omega) only[↓SB,S1,↓dA]
 refine aO.rule (α:=Nat×Int) (fun a=>[I a.2,I a.1]) (fun a=>a.1≤n.calls.length∧dX c n.asks a.2 (n.calls.drop a.1)=dX c n.asks 0 n.calls) (fun a=>n.calls.length-a.1) (0,0) rfl ⟨by simp,by simp⟩ (fun _=>rfl) ?_
 rintro ⟨i,p⟩ ⟨hl,hs⟩
 simp only[app] at *
 simp (disch:=first|omega|assumption|(constructor<;>first|assumption|omega)|simp only[LN];omega) only[↓SB,S1,↓dA]
 refine ⟨fun h=>?_,fun h=>?_⟩
 ·obtain ⟨x,hx⟩:=aL h
  rw[aT hx,xS] at hs
  simp (disch:=first|omega|assumption|(constructor<;>first|assumption|omega)|simp only[LN];omega) only[↓SB,S1,↓dA,aB hx]
  refine ⟨fun h1=>?_,fun h1=>⟨fun h2=>?_,fun h2=>⟨fun h3=>?_,fun h3=>⟨fun h4=>?_,fun h4=>⟨(i+1,x.count),by simp,⟨by omega,?_⟩,by simp;omega⟩⟩⟩⟩⟩
  ·rw[←hs];simp[show ¬p<x.count by omega]
  ·rw[←hs];simp[show ¬x.count≤n.asks by omega]
  ·rw[←hs,h3];simp
  ·rw[←hs,h4];simp
  ·rw[←hs,h3,h4];simp[show p<x.count by omega,show x.count≤n.asks by omega]
 ·rw[aQ h] at hs
  rw[←hs]
  simp[dX];omega
end Go.Xt
end
section
set_option linter.unusedSimpArgs false
set_option linter.unusedVariables false
set_option maxRecDepth 100000
namespace Go.Xt
set_option linter.defProp false
theorem ur{c:Config}{self t:Int}{x:Topic}{r:List Topic}:aU c self t (x::r)=(aC c t self x&&aU c self (t+1) r):=rfl
theorem ER{c:Config}{t self:Int}(h0:0≤t)(h1:t<c.topics)(hs:rng self 0 (c.nodes-1)=true):eE c t self=true:=by
 simp only[eE,hs,Bool.and_true];simp[rng];omega
def aY:=And.intro @dA (And.intro @io (And.intro @gE (And.intro @aS (And.intro @xo (And.intro @zR (@xp))))))
theorem xV(c:Config)(self:Int)(n:Node)(hp:bM c=true∧rng self 0 (c.nodes-1)=true)(hg:ay (dm (c,self,n)).2.1):WW ρ 17 lm dm (c,self,n):=by
 simp only[dm,RR] at hg ⊢
 unfold lm
 generalize hE:mT c self n=q
 obtain ⟨hc,hself⟩:=hp
 have hb:=nq hc
 simp only[ay,fG,bK] at hg
 unfold mT at hE
 refine SUB.v1 (bb (!(cnt n.inc&&rng n.pubs 0 1073741824&&rng n.asks 0 40&&(dX c n.asks 0 n.calls&&decide (n.calls.length≤40))))) ?_ ?_
 ·simp (disch:=first|omega|assumption|(constructor<;>first|assumption|omega)|simp only[LN];omega) only[↓S0,S3,S2,S1,↓aY]
  simp[Bool.and_assoc]
 cases hA:(cnt n.inc&&rng n.pubs 0 1073741824&&rng n.asks 0 40&&(dX c n.asks 0 n.calls&&decide (n.calls.length≤40)))
 ·simp (disch:=first|omega|assumption|(constructor<;>first|assumption|omega)|simp only[LN];omega) only[↓SB,S1,↓aY]
  rw[←hE]
  simp only[←Bool.and_assoc] at hA
  rw[hA];simp
 simp only[←Bool.and_assoc] at hA
 rw[hA] at hE
 rw[Bool.not_true,aK]
 refine SUB.v1 (bb (!(decide ((n.peers.length:Int)=c.nodes)&&decide ((n.topics.length:Int)=c.topics)&&decide ((n.marks.length:Int)=c.nodes)&&decide (n.taken.length≤64)))) ?_ ?_
 ·simp (disch:=first|omega|assumption|(constructor<;>first|assumption|omega)|simp only[LN];omega) only[↓S0,S3,S2,S1,↓aY]
  by_cases h1:(n.peers.length:Int)=c.nodes<;>by_cases h2:(n.topics.length:Int)=c.topics<;>by_cases h3:(n.marks.length:Int)=c.nodes<;>by_cases h4:n.taken.length≤64<;>simp[h1,h2,h3,h4]<;>omega
 cases hB:(decide ((n.peers.length:Int)=c.nodes)&&decide ((n.topics.length:Int)=c.topics)&&decide ((n.marks.length:Int)=c.nodes)&&decide (n.taken.length≤64))
 ·simp (disch:=first|omega|assumption|(constructor<;>first|assumption|omega)|simp only[LN];omega) only[↓SB,S1,↓aY]
  rw[←hE]
  revert hB
  by_cases h1:(n.peers.length:Int)=c.nodes<;>by_cases h2:(n.topics.length:Int)=c.topics<;>by_cases h3:(n.marks.length:Int)=c.nodes<;>by_cases h4:n.taken.length≤64<;>simp[h1,h2,h3,h4]
 simp only[Bool.and_eq_true,decide_eq_true_eq] at hB
 obtain ⟨⟨⟨B1,B2⟩,B3⟩,B4⟩:=hB
 have e1:decide ((n.peers.length:Int)=c.nodes)=true:=by simp[B1]
 have e2:decide ((n.topics.length:Int)=c.topics)=true:=by simp[B2]
 have e3:decide ((n.marks.length:Int)=c.nodes)=true:=by simp[B3]
 have e4:decide (n.taken.length≤64)=true:=by simp[B4]
 rw[e1,e2,e3,e4] at hE
 simp only[Bool.true_and] at hE
 simp (disch:=first|omega|assumption|(constructor<;>first|assumption|omega)|simp only[LN];omega) only[↓SB,S1,↓aY]
 refine aO.rule (α:=Nat) (fun i=>[I i]) (fun i=>i≤n.topics.length∧aU c self i (n.topics.drop i)=aU c self 0 n.topics) (fun i=>n.topics.length-i) 0 rfl ⟨by omega,by simp⟩ (fun _=>rfl) ?_
 rintro i ⟨hl,hs⟩
 simp only[app]
 simp (disch:=first|omega|assumption|(constructor<;>first|assumption|omega)|simp only[LN];omega) only[↓SB,S1,↓aY]
 refine ⟨fun h=>?_,fun h=>?_⟩
 ·obtain ⟨x,hx⟩:=aL h
  rw[aT hx,ur] at hs
  have hpl:=ER (c:=c) (t:=i) (by omega) (by omega) hself
  simp (disch:=first|omega|assumption|(constructor<;>first|assumption|omega)|simp only[LN];omega) only[↓SB,S1,↓aY,aB hx,hc,hpl]
  cases ht:aC c i self x
  ·simp
   rw[←hE,←hs,ht];simp
  ·simp
   exact ⟨i+1,by simp,⟨by omega,by rw[←hs,ht];simp⟩,by omega⟩
 rw[aQ h] at hs
 have hT:aU c self 0 n.topics=true:=by rw[←hs];rfl
 rw[hT] at hE
 simp only[Bool.true_and] at hE
 refine aO.rule (α:=Nat) (fun i=>[I i]) (fun i=>i≤n.marks.length∧(n.marks.drop i).all (oF)=n.marks.all (oF)) (fun i=>n.marks.length-i) 0 rfl ⟨by omega,by simp⟩ (fun _=>rfl) ?_
 rintro i ⟨hl_i,hs_i⟩
 simp only[app]
 simp (disch:=first|omega|assumption|(constructor<;>first|assumption|omega)|simp only[LN];omega) only[↓SB,S1,↓aY]
 refine ⟨fun hc_i=>?_,fun hc_i=>?_⟩
 ·obtain ⟨m,hm⟩:=aL hc_i
  rw[aT hm,List.all_cons] at hs_i
  simp (disch:=first|omega|assumption|(constructor<;>first|assumption|omega)|simp only[LN];omega) only[↓SB,S1,↓aY,aB hm]
  refine ⟨fun h3=>?_,fun h3=>⟨i+1,rfl,⟨by omega,by simpa[h3] using hs_i⟩,by omega⟩⟩
  rw[h3,Bool.false_and] at hs_i
  simp only[Int.natCast_nonneg,decide_true,Bool.not_true,aK]
  simp (disch:=first|omega|assumption|(constructor<;>first|assumption|omega)|simp only[LN];omega) only[↓SB,S1,↓aY]
  rw[←hE,←hs_i]
  simp
 rw[aQ hc_i] at hs_i
 have hM:n.marks.all oF=true:=by rw[←hs_i];rfl
 rw[hM] at hE
 refine ⟨fun h5=>?_,fun h5=>?_⟩
 ·cases hp5:bf n.peers
  ·rw[hp5] at h5;simp at h5
  rw[hp5] at hE
  simp only[Bool.true_and] at hE
  clear hs_i
  simp only[show ¬(0:Int)≤ -1 by decide,not_false_eq_true,true_implies,false_implies,and_true]
  refine aO.rule (α:=Nat) (fun i=>[I i]) (fun i=>i≤n.taken.length∧(n.taken.drop i).all (nO c)=n.taken.all (nO c)) (fun i=>n.taken.length-i) 0 rfl ⟨by omega,by simp⟩ (fun _=>rfl) ?_
  rintro i ⟨hl_i,hs_i⟩
  simp only[app]
  simp (disch:=first|omega|assumption|(constructor<;>first|assumption|omega)|simp only[LN];omega) only[↓SB,S1,↓aY]
  refine ⟨fun hc_i=>?_,fun hc_i=>?_⟩
  ·obtain ⟨m,hm⟩:=aL hc_i
   rw[aT hm,List.all_cons] at hs_i
   simp (disch:=first|omega|assumption|(constructor<;>first|assumption|omega)|simp only[LN];omega) only[↓SB,S1,↓aY,aB hm]
   refine ⟨fun h3=>?_,fun h3=>⟨i+1,rfl,⟨by omega,by simpa[h3] using hs_i⟩,by omega⟩⟩
   rw[h3,Bool.false_and] at hs_i
   rw[←hE,←hs_i]
   simp
  ·rw[aQ hc_i] at hs_i
   rw[←hE,←hs_i];simp
 ·cases hp5:bf n.peers
  ·rw[←hE,hp5];simp
  ·rw[hp5] at h5;simp at h5
def eo:=And.intro @gY (And.intro @dA (@xq))
theorem xW(c:Config)(self:Int)(n:Node)(hg:ay (dp (c,self,n)).2.1):WW ρ 17 ln dp (c,self,n):=by
 simp only[dp,RR] at hg ⊢
 unfold ln il
 cases hc:bM c
 ·simp (disch:=first|omega|assumption|(constructor<;>first|assumption|omega)|simp only[LN];omega) only[↓SB,S1,↓eo,hc]
  simp
 have hb:=nq hc
 simp (disch:=first|omega|assumption|(constructor<;>first|assumption|omega)|simp only[LN];omega) only[↓SB,S1,↓eo,hc]
 cases hs:rng self 0 (c.nodes-1)
 ·simp (disch:=first|omega|assumption|(constructor<;>first|assumption|omega)|simp only[LN];omega) only[↓SB,S1,↓eo,hs]
  simp
 ·simp (disch:=first|omega|assumption|(constructor<;>first|assumption|omega)|simp only[LN];omega) only[↓SB,S1,↓eo,hs]
  cases hu:n.up
  ·simp (disch:=first|omega|assumption|(constructor<;>first|assumption|omega)|simp only[LN];omega) only[↓SB,S1,↓eo]
   simp
  ·simp (disch:=first|omega|assumption|(constructor<;>first|assumption|omega)|simp only[LN];omega) only[↓SB,S1,↓eo]
   cases mT c self n<;>simp
end Go.Xt
end
section
set_option linter.unusedSimpArgs false
set_option linter.unusedVariables false
set_option maxRecDepth 100000
namespace Go.Xt
instance:FlatRow Kid:=⟨fun a q hq=>by simp[Row.row] at hq;rcases hq with rfl | rfl | rfl<;>rfl⟩
instance:FlatRow Item:=⟨fun a q hq=>by simp[Row.row] at hq;rcases hq with rfl | rfl<;>rfl⟩
instance:FlatRow Event:=⟨fun a q hq=>by simp[Row.row] at hq;rcases hq with rfl | rfl | rfl | rfl | rfl | rfl<;>rfl⟩
instance:FlatRow Peer:=⟨fun a q hq=>by simp[Row.row] at hq;rcases hq with rfl | rfl<;>rfl⟩
instance:FlatRow By:=⟨fun a q hq=>by simp[Row.row] at hq;subst hq;rfl⟩
theorem nr{α:Type}{xs:List α}{i:Nat}{x:α}(h:xs[i]? =some x):xs.take (i+1)=xs.take i++[x]:=by rw[List.take_add_one,h];rfl
theorem oP{x:Topic}(h:fP x=false):x.path.length≤20∧x.kids.length≤20∧x.stream.kept.length≤30∧x.stream.ahead.length≤30∧x.queue.length≤50:=by
 simp[fP,x7] at h;omega
theorem tf{n:Node}(h:cV n=false):n.peers.length≤12∧n.topics.length≤8∧n.calls.length≤60∧n.marks.length≤12∧n.taken.length≤80∧n.topics.any fP=false:=by
 simp only[cV,Bool.or_eq_false_iff,decide_eq_false_iff_not] at h
 obtain ⟨⟨⟨⟨⟨a,b⟩,d⟩,e⟩,f⟩,g⟩:=h
 exact ⟨by omega,by omega,by omega,by omega,by omega,g⟩
end Go.Xt
end
section
set_option linter.unusedSimpArgs false
set_option linter.unusedVariables false
set_option maxRecDepth 100000
namespace Go.Xt
theorem jg(l:List Int)(n:Int)(hg:ay (aH (l,n)).2.1):WW ρ 2 ca aH (l,n):=by
 simp only[aH,RR] at hg ⊢
 unfold ca
 simp only[ay,bK,fG] at hg
 simp (disch:=first|omega|assumption|(constructor<;>first|assumption|omega)|simp only[LN];omega) only[↓SB,S1]
 refine aO.rule (α:=Nat) (fun i=>[I i]) (fun i=>i≤l.length∧(l.drop i).contains n=l.contains n) (fun i=>l.length-i) 0 rfl ⟨by omega,by simp⟩ (fun _=>rfl) ?_
 rintro i ⟨hl,hs⟩
 simp only[app]
 simp (disch:=first|omega|assumption|(constructor<;>first|assumption|omega)|simp only[LN];omega) only[↓SB,S1]
 refine ⟨fun hc=>?_,fun hc=>?_⟩
 ·obtain ⟨x,hx⟩:=aL hc
  rw[aT hx,List.contains_cons] at hs
  simp (disch:=first|omega|assumption|(constructor<;>first|assumption|omega)|simp only[LN];omega) only[↓SB,S1,aB hx]
  refine ⟨fun h3=>?_,fun h3=>⟨i+1,rfl,⟨by omega,?_⟩,by omega⟩⟩
  ·rw[←hs];simp[h3]
  ·rw[←hs];simp[h3]
 ·rw[aQ hc] at hs
  rw[←hs];simp
theorem D9{m:Int}: ∀(l:List Item) (p:Int),pK m p l=true→(l.length:Int)≤max 0 (m-1-p)
 | [],p,_=>by simp;omega
 | x::r,p,h=>by
  simp only[pK,Bool.and_eq_true,decide_eq_true_eq] at h
  have:=D9 r x.seq h.2
  simp only[List.length_cons]
  omega
theorem Ca{c:Config}{t self:Int}{x:Topic}(hc:bM c=true)(h:aC c t self x=true):Ev c x=false:=by
 have hb:=nq hc
 simp only[aC,Bool.and_eq_true,mS,jB,bW,mR,Bool.or_eq_true,pM,sH,pL,decide_eq_true_eq] at h
 obtain ⟨⟨_,hk⟩,hs,hq⟩:=h
 have h1: ¬(x.kids.length:Int)>c.kids:=by have:=hk.1.2;omega
 have h2: ¬(x.queue.length:Int)>c.queue:=by have:=hq.1.1.2;omega
 have h3: ¬(x.stream.kept.length:Int)>c.keep:=by
  rcases hs with hs | hs
  ·rw[hs.1.2];simp;omega
  ·have:=hs.1.2.1.1.2;omega
 have h4: ¬(x.stream.ahead.length:Int)>c.window:=by
  rcases hs with hs | hs
  ·rw[hs.2];simp;omega
  ·have:=D9 _ _ hs.2.2;omega
 simp[Ev,h1,h2,h3,h4]
end Go.Xt
end
section
set_option linter.unusedSimpArgs false
set_option linter.unusedVariables false
set_option maxRecDepth 100000
namespace Go.Xt
theorem xX  :WW ρ 0 lp fS ():=by
 simp only[fS,RR]
 unfold lp
 rfl
end Go.Xt
end
section
set_option linter.unusedSimpArgs false
set_option linter.unusedVariables false
set_option maxRecDepth 100000
namespace Go.Xt
set_option linter.defProp false
theorem DO{α:Type}{l:List α}{i:Nat}{x:α}(h:l[i]? =some x):l.take i++[x]=l.take (i+1):=by
 rw[List.take_add_one,h];rfl
theorem Da{v:Int}:isK v=true↔0≤v∧v<4611686018427387904:=by simp[isK]
theorem GU(n:Int):isK (nn n)=true:=Da.2 (t8 n)
theorem GV{k n:Int}(h1:0≤k)(h2:k<4611686018427387904)(h3:0≤n)(h4:n<4611686018427387904):0≤far k n∧far k n<4611686018427387904:=by
 unfold far;split<;>omega
theorem ES(k:Int):WW ρ 1 sO kp k:=by
 simp only[kp,RR]
 unfold sO
 simp (disch:=first|omega|assumption|(constructor<;>first|assumption|omega)|simp only[LN];omega) only[↓SB,S1]
 refine ⟨fun h=>?_,fun h=>?_⟩ <;>simp[isK,h]
theorem Cb: ∀n:Fin 62,(1:Int)≤2 ^ n.val∧(2:Int) ^ n.val<4611686018427387904:=by decide +kernel
theorem GW{b:Int}{k:PV→Prop}(h0:0≤b)(h1:b≤61):OP (.bin .shl) [I 1,I b] k=k (I (2 ^ b.toNat)):=aq (by
 have h:(1:Int)≤2 ^ b.toNat∧(2:Int) ^ b.toNat<4611686018427387904:=Cb ⟨b.toNat,by omega⟩
 have h2:min b.toNat IntKind.i64.bits=b.toNat:=Nat.min_eq_left (by simp only[IntKind.bits];omega)
 have h3: ¬b<0:=by omega
 simp only[ev,iF,h2,h3,if_false,Int.one_mul,Option.some.injEq,PV.int.injEq,true_and]
 exact wr (by omega) (by omega))
def tg:=And.intro @nP (@Ez)
theorem Cc(k:Int)(bits:Int):WW ρ 2 oJ go (k,bits):=by
 simp only[go,RR]
 unfold oJ
 simp (disch:=first|omega|assumption|(constructor<;>first|assumption|omega)|simp only[LN];omega) only[↓SB,S1,↓tg]
 refine ⟨fun h=>by simp[h],fun h=>⟨fun h2=>?_,fun h2=>⟨fun h3=>?_,fun h3=>?_⟩⟩⟩
 ·have: ¬0≤bits:=by omega
  simp[h,this]
 ·have: ¬bits≤61:=by omega
  simp[h,this]
 ·have a:=Da.1 h
  have b:(1:Int)≤2 ^ bits.toNat∧(2:Int) ^ bits.toNat<4611686018427387904:=Cb ⟨bits.toNat,by omega⟩
  rw[GW (by omega) (by omega)]
  simp (disch:=first|omega|assumption|(constructor<;>first|assumption|omega)|simp only[LN];omega) only[↓SB,S1,↓tg]
  have c:bits≤61:=by omega
  have d:0≤bits:=by omega
  simp[h,c,d]
def iw:=And.intro @aJ (And.intro @lD (@oN))
theorem xY(t:Int)(l:List Int)(hg:ay (cZ (t,l)).2.1):WW ρ 2 kX cZ (t,l):=by
 simp only[cZ,RR] at hg ⊢
 unfold kX lR
 simp only[ay,bK] at hg
 simp (disch:=first|omega|assumption|(constructor<;>first|assumption|omega)|simp only[LN];omega) only[↓SB,S1,↓iw]
 rcases Bool.eq_false_or_eq_true (isT t) with h | h
 case inr=>simp[h]
 simp only[h,if_true,Bool.true_eq_false,forall_const,if_false,Int.reduceEq,not_true_eq_false,false_implies,not_false_eq_true,true_and]
 refine ⟨fun h2=>by simp[h2],fun h2=>⟨fun h3=>?_,fun h3=>?_⟩⟩
 ·have:l=[]:=List.eq_nil_of_length_eq_zero (by omega)
  subst this;simp
 ·cases l with
  | nil=>simp at h3
  | cons y l0 =>
   simp only[h2,if_true]
   rw[fJ (by omega) (by simp)]
   simp (disch:=first|omega|assumption|(constructor<;>first|assumption|omega)|simp only[LN];omega) only[↓SB,S1,↓iw]
   generalize hl:y::l0=l at *
   refine aO.rule (α:=Nat×Int) (fun a=>[I a.2,I a.1]) (fun a=>a.1≤l.length∧hD t a.2 (l.drop a.1)=hD t y l) (fun a=>l.length-a.1) (0,y) rfl ⟨by simp,by simp⟩ (fun _=>rfl) ?_
   rintro ⟨i,b⟩ ⟨h4,h5⟩
   simp only[app] at *
   simp (disch:=first|omega|assumption|(constructor<;>first|assumption|omega)|simp only[LN];omega) only[↓SB,S1,↓iw]
   refine ⟨fun h6=>?_,fun h6=>?_⟩
   ·obtain ⟨x,hx⟩:=aL h6
    rw[aT hx,hD] at h5
    simp (disch:=first|omega|assumption|(constructor<;>first|assumption|omega)|simp only[LN];omega) only[↓SB,S1,↓iw,aB hx]
    refine ⟨fun h7=>⟨(i+1,x),by simp,⟨by simp;omega,by simpa[h7] using h5⟩,by simp;omega⟩,fun h7=>⟨(i+1,b),by simp,⟨by simp;omega,by simpa[h7] using h5⟩,by simp;omega⟩⟩
   ·rw[aQ h6] at h5
    simp[←h5,hD]
theorem oQ{xs:List Int}{i:Nat}{x d:Int}(h:xs[i]? =some x):(xs.take (i+1)).getLastD d=x:=by
 rw[←DO h,List.getLastD_concat]
def gF:=And.intro @cg (@aV)
theorem ut(live:List Int)(self:Int)(hg:ay (cv (live,self)).2.1):WW ρ 2 jE cv (live,self):=by
 simp only[cv,RR] at hg ⊢
 unfold jE x4
 simp only[ay,bK] at hg
 simp (disch:=first|omega|assumption|(constructor<;>first|assumption|omega)|simp only[LN];omega) only[↓SB,S1,↓gF]
 refine aO.rule (α:=Nat) (fun i=>[I i]) (fun i=>i≤live.length∧iO (((live.take i).getLastD (-1))) (live.drop i)=iO (-1) live) (fun i=>live.length-i) 0 rfl ⟨by simp,by simp⟩ (fun _=>rfl) ?_
 rintro i ⟨h4,h5⟩
 simp only[app] at *
 simp (disch:=first|omega|assumption|(constructor<;>first|assumption|omega)|simp only[LN];omega) only[↓SB,S1,↓gF]
 refine ⟨fun h6=>?_,fun h6=>?_⟩
 ·obtain ⟨x,hx⟩:=aL h6
  rw[aT hx,iO] at h5
  simp (disch:=first|omega|assumption|(constructor<;>first|assumption|omega)|simp only[LN];omega) only[↓SB,S1,↓gF,aB hx]
  refine ⟨fun h7=>?_,fun h7=>⟨fun h8=>?_,fun h8=>?_⟩⟩
  ·rw[←h5];simp[h7]
  ·obtain ⟨j,rfl⟩: ∃j,i=j+1:=⟨i-1,by omega⟩
   have hj:(((j+1:Nat):Int)-1)=(j:Nat):=by omega
   obtain ⟨y,hy⟩:=aL (xs:=live) (i:=j) (by omega)
   rw[oQ hy] at h5
   rw[hj]
   simp (disch:=first|omega|assumption|(constructor<;>first|assumption|omega)|simp only[LN];omega) only[↓SB,S1,↓gF,aB hx,aB hy]
   refine ⟨fun h9=>?_,fun h9=>⟨j+2,by simp;omega,⟨by omega,?_⟩,by omega⟩⟩
   ·have: ¬y<x:=by omega
    rw[←h5];simp[this]
   ·rw[oQ hx,←h5]
    have:y<x:=by omega
    simp[h7,this]
  ·have:i=0:=by omega
   subst this
   refine ⟨1,by simp,⟨by omega,?_⟩,by omega⟩
   rw[oQ hx,←h5]
   have:=iv.1 h7
   have:(-1:Int)<x:=by omega
   simp[h7,this]
 ·rw[aQ h6] at h5
  simp only[iO] at h5
  rw[←h5]
  refine ⟨fun h=>by rw[h];simp,fun h=>by rw[h];simp⟩
def jW:=And.intro @jt (@nP)
theorem uu(live:List Int)(k:Int)(hp:live.all isN=true∧0≤k∧k<4611686018427387904)(hg:ay (cw (live,k)).2.1):WW ρ 2 jF cw (live,k):=by
 simp only[cw,RR] at hg ⊢
 unfold jF mP
 simp only[ay,bK] at hg
 obtain ⟨p1,p2,p3⟩:=hp
 rw[List.all_eq_true] at p1
 simp (disch:=first|omega|assumption|(constructor<;>first|assumption|omega)|simp only[LN];omega) only[↓SB,S1,↓jW]
 refine aO.rule (α:=Nat×Int×Int) (fun a=>[I a.2.1,I a.2.2,I a.1]) (fun a=>a.1≤live.length∧gA k a.2.1 a.2.2 (live.drop a.1)=gA k (-1) 0 live) (fun a=>live.length-a.1) (0,-1,0) rfl ⟨by simp,by simp⟩ (fun _=>rfl) ?_
 rintro ⟨i,b,d⟩ ⟨h4,h5⟩
 simp only[app] at *
 simp (disch:=first|omega|assumption|(constructor<;>first|assumption|omega)|simp only[LN];omega) only[↓SB,S1,↓jW]
 refine ⟨fun h6=>?_,fun h6=>?_⟩
 ·obtain ⟨x,hx⟩:=aL h6
  rw[aT hx,gA] at h5
  have hN:=p1 x (List.mem_of_getElem? hx)
  have hb:=t8 x
  simp (disch:=first|omega|assumption|(constructor<;>first|assumption|omega)|simp only[LN];omega) only[↓SB,S1,↓jW,aB hx,hN,if_true]
  refine ⟨fun h7=>⟨(i+1,x,far k (nn x)),by simp,⟨by simp;omega,by simpa[h7] using h5⟩,by simp;omega⟩,fun h7=>⟨fun h8=>⟨(i+1,x,far k (nn x)),by simp,⟨by simp;omega,by simpa[h8] using h5⟩,by simp;omega⟩,fun h8=>⟨(i+1,b,d),by simp,⟨by simp;omega,by simpa[h7,h8] using h5⟩,by simp;omega⟩⟩⟩
 ·rw[aQ h6,gA] at h5
  simp[←h5]
def jX:=And.intro @jt (@nP)
theorem uv(live:List Int)(self:Int)(hp:live.all isN=true∧isN self=true)(hg:ay (cx (live,self)).2.1):WW ρ 2 jG cx (live,self):=by
 simp only[cx,RR] at hg ⊢
 unfold jG iP
 simp only[ay,bK] at hg
 obtain ⟨p1,p2⟩:=hp
 rw[List.all_eq_true] at p1
 simp (disch:=first|omega|assumption|(constructor<;>first|assumption|omega)|simp only[LN];omega) only[↓SB,S1,↓jX]
 refine aO.rule (α:=Nat×Int×Int) (fun a=>[I a.2.1,I a.2.2,I a.1]) (fun a=>a.1≤live.length∧fO self a.2.1 a.2.2 (live.drop a.1)=fO self (-1) 0 live) (fun a=>live.length-a.1) (0,-1,0) rfl ⟨by simp,by simp⟩ (fun _=>rfl) ?_
 rintro ⟨i,b,d⟩ ⟨h4,h5⟩
 simp only[app] at *
 simp (disch:=first|omega|assumption|(constructor<;>first|assumption|omega)|simp only[LN];omega) only[↓SB,S1,↓jX]
 refine ⟨fun h6=>?_,fun h6=>?_⟩
 ·obtain ⟨x,hx⟩:=aL h6
  rw[aT hx,fO] at h5
  have hN:=p1 x (List.mem_of_getElem? hx)
  have hb:=t8 x
  have hb2:=t8 self
  simp (disch:=first|omega|assumption|(constructor<;>first|assumption|omega)|simp only[LN];omega) only[↓SB,S1,↓jX,aB hx,hN,p2,if_true]
  refine ⟨fun h7=>⟨fun h8=>⟨(i+1,x,far (nn x) (nn self)),by simp,⟨by simp;omega,by simpa[h7,h8] using h5⟩,by simp;omega⟩,fun h8=>⟨fun h9=>⟨(i+1,x,far (nn x) (nn self)),by simp,⟨by simp;omega,by simpa[h7,h8,h9] using h5⟩,by simp;omega⟩,fun h9=>⟨(i+1,b,d),by simp,⟨by simp;omega,by simpa[h7,h8,h9] using h5⟩,by simp;omega⟩⟩⟩,fun h7=>⟨(i+1,b,d),by simp,⟨by simp;omega,by simpa[h7] using h5⟩,by simp;omega⟩⟩
 ·rw[aQ h6,fO] at h5
  simp[←h5]
theorem th: ∀ {l:List Int} {p:Int},iO p l=true→l.all isN=true
 | [],_,_=>rfl
 | x::r,p,h=>by
  simp only[iO,Bool.and_eq_true] at h
  rw[List.all_cons,h.1.1,th h.2];rfl
theorem vC{live:List Int}{self:Int}(h:x4 live self=0):(live.all isN=true∧isN self=true)∧(live.all isN=true∧isN self=true∧live≠[])∧iO (-1) live=true∧live.contains self=true:=by
 unfold x4 at h
 split at h
 ·rename_i h1
  rw[Bool.and_eq_true] at h1
  have a:=th h1.1
  have b:isN self=true:=by
   rw[List.all_eq_true] at a;exact a self (by simpa using h1.2)
  exact ⟨⟨a,b⟩,⟨a,b,by rintro rfl;simp at h1⟩,h1.1,h1.2⟩
 ·omega
def uw:=And.intro @lD (@u9)
theorem ux(t:Int)(live:List Int)(self:Int)(hg:ay (cy (t,live,self)).2.1):WW ρ 3 jH cy (t,live,self):=by
 simp only[cy,RR] at hg ⊢
 unfold jH mQ
 simp (disch:=first|omega|assumption|(constructor<;>first|assumption|omega)|simp only[LN];omega) only[↓SB,S1,↓uw]
 refine ⟨fun h=>by simp[h],fun h=>by simp[h]⟩
end Go.Xt
end
section
set_option linter.unusedSimpArgs false
set_option linter.unusedVariables false
set_option maxRecDepth 100000
namespace Go.Xt
set_option linter.defProp false
theorem ET: ∀ {xs ys:List Int},xs.Pairwise (· < ·)→ys.Pairwise (· < ·)→(∀a,a∈xs↔a∈ys)→xs=ys
 | [],[],_,_,_=>rfl
 | [],y::ys,_,_,h=>by have:=(h y).2 (by simp);simp at this
 | x::xs,[],_,_,h=>by have:=(h x).1 (by simp);simp at this
 | x::xs,y::ys,h1,h2,h=>by
  rw[List.pairwise_cons] at h1 h2
  have e:x=y:=by
   have a:=(h x).1 (by simp)
   have b:=(h y).2 (by simp)
   rw[List.mem_cons] at a b
   rcases a with a | a
   ·exact a
   ·rcases b with b | b
    ·exact b.symm
    ·have:=h2.1 x a;have:=h1.1 y b;omega
  subst e
  rw[ET h1.2 h2.2 fun a=>⟨fun ha=>?_,fun ha=>?_⟩]
  ·have:=(h a).1 (by simp[ha])
   rw[List.mem_cons] at this
   rcases this with e | e
   ·have:=h1.1 a ha;omega
   ·exact e
  ·have:=(h a).2 (by simp[ha])
   rw[List.mem_cons] at this
   rcases this with e | e
   ·have:=h2.1 a ha;omega
   ·exact e
theorem qE: ∀ {r:List Int} {p:Int},r.Pairwise (· ≤ ·)→(∀a∈r,p≤a)→(gQ p r).Pairwise (· < ·)∧(∀a,a∈gQ p r↔a∈r∧a≠p)
 | [],p,_,_=>by simp[gQ]
 | y::r,p,h1,h2=>by
  rw[List.pairwise_cons] at h1
  unfold gQ
  by_cases e:y=p
  ·subst e
   obtain ⟨a,b⟩:=qE h1.2 h1.1
   rw[if_pos rfl]
   refine ⟨a,fun z=>?_⟩
   rw[b,List.mem_cons]
   exact ⟨fun h=>⟨.inr h.1,h.2⟩,fun h=>⟨h.1.resolve_left h.2,h.2⟩⟩
  ·obtain ⟨a,b⟩:=qE h1.2 h1.1
   rw[if_neg e]
   refine ⟨List.pairwise_cons.2 ⟨fun z hz=>?_,a⟩,fun z=>?_⟩
   ·have:=(b z).1 hz
    have:=h1.1 z this.1
    omega
   ·have hy:=h2 y (by simp)
    rw[List.mem_cons,b,List.mem_cons]
    constructor
    ·rintro (rfl | ⟨h,h'⟩)
     ·exact ⟨.inl rfl,e⟩
     ·exact ⟨.inr h,by have:=h1.1 z h;omega⟩
    ·rintro ⟨rfl | h,h'⟩
     ·exact .inl rfl
     ·by_cases z=y
      ·left;assumption
      ·right;exact ⟨h,by assumption⟩
theorem FR{l:List Int}(h:l.Pairwise (· ≤ ·)):(aP l).Pairwise (· < ·)∧ ∀a,a∈aP l↔a∈l:=by
 cases l with
 | nil=>simp[aP]
 | cons x r =>
  rw[List.pairwise_cons] at h
  obtain ⟨a,b⟩:=qE h.2 h.1
  unfold aP
  refine ⟨List.pairwise_cons.2 ⟨fun z hz=>?_,a⟩,fun z=>?_⟩
  ·have:=(b z).1 hz
   have:=h.1 z this.1
   omega
  ·rw[List.mem_cons,b,List.mem_cons]
   by_cases e:z=x<;>simp[e]
theorem Cd{l:List Int}{a:Int}:a∈gR l↔a∈l:=List.mem_mergeSort
theorem DP(l:List Int):(gR l).Pairwise (· ≤ ·):=by
 have:=List.pairwise_mergeSort (le:=fun x y:Int=>decide (x≤y)) (by intro a b c;simp;omega) (by intro a b;simp;omega) l
 simpa[gR] using this
theorem Ce{a:Int}:a∈gl↔isN a=true:=by
 rw[iv];simp[gl];omega
theorem EU:gl.Pairwise (· < ·):=by decide
theorem Ar{l:List Int}(h: ∀a∈l,isN a=true):aP (gR l)=gl.filter fun n=>l.contains n:=by
 obtain ⟨a,b⟩:=FR (DP l)
 refine ET a (EU.filter _) fun z=>?_
 rw[b,Cd,List.mem_filter,Ce]
 simp only[List.contains_eq_mem,decide_eq_true_eq]
 exact ⟨fun hz=>⟨h z hz,hz⟩,fun hz=>hz.2⟩
theorem nu{k:Int}: ∀(l:List Int) (b d:Int),(gA k b d l=b∧(0≤b∨l=[]))∨gA k b d l∈l
 | [],b,d=>.inl ⟨rfl,.inr rfl⟩
 | x::r,b,d=>by
  unfold gA
  split
  ·rcases nu r x (far k (nn x)) with ⟨h,_⟩ | h
   ·right;rw[h];simp
   ·right;simp[h]
  ·rename_i hb
   rcases nu r b d with ⟨h,_⟩ | h
   ·left;exact ⟨h,.inl (by omega)⟩
   ·right;simp[h]
theorem Cf{live:List Int}{k:Int}(h:live≠[]):mP live k∈live:=by
 rcases nu (k:=k) live (-1) 0 with ⟨_,h1 | h1⟩ | h1
 ·omega
 ·exact absurd h1 h
 ·exact h1
theorem oR(live:List Int)(self:Int)(k:Nat):lS live self (k+1)=lS live self k++if mP live (o9 self k)≠self then [mP live (o9 self k)] else []:=by
 unfold lS
 rw[List.range_succ,List.map_append,List.filter_append]
 congr 1
 by_cases h:mP live (o9 self k)=self<;>simp[h]
theorem vD(live:List Int)(self:Int): ∀k:Nat,(lS live self k).length≤k
 | 0=>by simp[lS]
 | k+1=>by
  have:=vD live self k
  rw[oR,List.length_append]
  split<;>simp<;>omega
theorem vE{live:List Int}{self n:Int}{k:Nat}(h0:live≠[])(h:n∈lS live self k):n∈live∧n≠self:=by
 unfold lS at h
 simp only[List.mem_filter,List.mem_map,decide_eq_true_eq] at h
 obtain ⟨⟨i,_,rfl⟩,h2⟩:=h
 exact ⟨Cf h0,h2⟩
theorem EV(self:Int){i:Nat}(h:i<62):0≤o9 self i∧o9 self i<4611686018427387904:=by
 have b:(1:Int)≤2 ^ i∧(2:Int) ^ i<4611686018427387904:=Cb ⟨i,h⟩
 exact GV (by omega) b.2 (t8 self).1 (t8 self).2
theorem Cg{live:List Int}{self:Int}(h1:live.all isN=true)(h3:live≠[]):aP (gR (lS live self 62))=gB live self:=by
 rw[List.all_eq_true] at h1
 rw[Ar fun a ha=>h1 a (vE h3 ha).1];rfl
theorem Ch(l:List Int):(gR l).length=l.length:=List.length_mergeSort ..
def eM:=And.intro @jt (And.intro @BV (And.intro @ua (And.intro @m0 (@jU))))
theorem rC(live:List Int)(self:Int)(hp:live.all isN=true∧isN self=true∧live≠[])(hg:ay (bB (live,self)).2.1):WW ρ 2 gT bB (live,self):=by
 simp only[bB,RR] at hg ⊢
 unfold gT
 obtain ⟨p1,p2,p3⟩:=hp
 simp (disch:=first|omega|assumption|(constructor<;>first|assumption|omega)|simp only[LN];omega) only[↓SB,S1,↓eM,p2,if_true]
 refine aO.rule (α:=Nat) (fun i=>[I i,L (lS live self i)]) (fun i=>i≤62) (fun i=>62-i) 0 rfl (by simp) (fun _=>rfl) ?_
 intro i h4
 simp only[app] at *
 have hl:=vD live self i
 simp (disch:=first|omega|assumption|(constructor<;>first|assumption|omega)|simp only[LN];omega) only[↓SB,S1,↓eM]
 refine ⟨fun h6=>?_,fun h6=>?_⟩
 ·have e:(isK (nn self)&&decide (0≤(i:Int))&&decide ((i:Int)≤61))=true:=by simp[GU];omega
  have hb:=EV self (i:=i) (by omega)
  have hk:live.all isN=true∧0≤o9 self i∧o9 self i<4611686018427387904:=⟨p1,hb⟩
  have e2:far (2 ^ i) (nn self)=o9 self i:=rfl
  simp (disch:=first|omega|assumption|(constructor<;>first|assumption|omega)|simp only[LN];omega) only[↓SB,S1,↓eM,e,if_true,Int.toNat_natCast,e2]
  refine ⟨fun h7=>⟨i+1,?_,by omega,by omega⟩,fun h7=>⟨i+1,?_,by omega,by omega⟩⟩
  ·rw[oR];simp[h7]
  ·rw[oR];simp[h7]
 ·have e:i=62:=by omega
  subst e
  have hs:=Ch (lS live self 62)
  simp (disch:=first|omega|assumption|(constructor<;>first|assumption|omega)|simp only[LN];omega) only[↓SB,S1,↓eM,Cg p1 p3]
theorem nv{self:Int}: ∀(l:List Int) (b d:Int),fO self b d l=b∨(fO self b d l∈l∧fO self b d l≠self)
 | [],b,d=>.inl rfl
 | x::r,b,d=>by
  unfold fO
  split
  ·rename_i h1
   rcases nv r x (far (nn x) (nn self)) with h | h
   ·right;rw[h];exact ⟨by simp,h1.1⟩
   ·right;exact ⟨by simp[h],h.2⟩
  ·rcases nv r b d with h | h
   ·left;exact h
   ·right;exact ⟨by simp[h],h.2⟩
theorem Ci(live:List Int)(self:Int):iP live self= -1∨(iP live self∈live∧iP live self≠self):=nv live (-1) 0
theorem As(live:List Int)(self:Int):(gB live self).length≤8:=by
 have:=List.length_filter_le (fun n=>(lS live self 62).contains n) gl
 exact this
def lJ:=And.intro @aJ (And.intro @ro (@ub))
theorem xZ(t:Int)(live:List Int)(self:Int)(hp:live.all isN=true∧isN self=true∧live≠[])(hg:ay (da (t,live,self)).2.1):WW ρ 3 kY da (t,live,self):=by
 simp only[da,RR] at hg ⊢
 unfold kY cK
 have hA:live.all isN=true∧isN self=true:=⟨hp.1,hp.2.1⟩
 have hl:=As live self
 simp (disch:=first|omega|assumption|(constructor<;>first|assumption|omega)|simp only[LN];omega) only[↓SB,S1,↓lJ]
 have hl2:(gB live self++[iP live self]).length≤9:=by simp;omega
 generalize gB live self++[iP live self]=l at hl2 ⊢
 refine aO.rule (α:=Nat×Int) (fun a=>[I a.2,I a.1]) (fun a=>a.1≤l.length∧hD t a.2 (l.drop a.1)=hD t self l) (fun a=>l.length-a.1) (0,self) rfl ⟨by simp,by simp⟩ (fun _=>rfl) ?_
 rintro ⟨i,b⟩ ⟨h4,h5⟩
 simp only[app] at *
 simp (disch:=first|omega|assumption|(constructor<;>first|assumption|omega)|simp only[LN];omega) only[↓SB,S1,↓lJ]
 refine ⟨fun h6=>?_,fun h6=>?_⟩
 ·obtain ⟨x,hx⟩:=aL h6
  rw[aT hx,hD] at h5
  simp (disch:=first|omega|assumption|(constructor<;>first|assumption|omega)|simp only[LN];omega) only[↓SB,S1,↓lJ,aB hx]
  refine ⟨fun h7=>⟨(i+1,x),by simp,⟨by simp;omega,by simpa[h7] using h5⟩,by simp;omega⟩,fun h7=>⟨(i+1,b),by simp,⟨by simp;omega,by simpa[h7] using h5⟩,by simp;omega⟩⟩
 ·rw[aQ h6,hD] at h5
  rw[←h5]
  refine ⟨fun h=>by simp[h],fun h=>by simp[h]⟩
theorem oS{t:Int}: ∀(l:List Int) (b:Int),hD t b l=b∨(eD t (hD t b l) b=true∧hD t b l∈l)
 | [],b=>.inl rfl
 | x::r,b=>by
  unfold hD
  by_cases h:eD t x b=true
  ·rw[if_pos h]
   rcases oS r x (t:=t) with e | e
   ·right;rw[e];exact ⟨h,by simp⟩
   ·right;exact ⟨oO e.1 h,by simp[e.2]⟩
  ·rw[if_neg h]
   rcases oS r b (t:=t) with e | e
   ·left;exact e
   ·right;exact ⟨e.1,by simp[e.2]⟩
theorem tk(t:Int)(live:List Int)(self:Int):cK t live self= -1∨(eD t (cK t live self) self=true∧cK t live self∈gB live self++[iP live self]):=by
 unfold cK
 split
 ·left;rfl
 ·rename_i h
  exact .inr ((oS _ _).resolve_left h)
def pW:=And.intro @uc (@xf)
theorem y8(t:Int)(live:List Int)(self:Int)(hg:ay (db (t,live,self)).2.1):WW ρ 3 kZ db (t,live,self):=by
 simp only[db,RR] at hg ⊢
 unfold kZ
 simp (disch:=first|omega|assumption|(constructor<;>first|assumption|omega)|simp only[LN];omega) only[↓SB,S1,↓pW]
 refine ⟨fun h=>by simp[h],fun h=>?_⟩
 have hB:live.all isN=true∧isN self=true∧live≠[]:=by
  unfold mQ at h
  by_cases h2:x4 live self=0
  ·exact (vC h2).2.1
  ·rw[if_neg h2] at h;exact absurd h h2
 simp (disch:=first|omega|assumption|(constructor<;>first|assumption|omega)|simp only[LN];omega) only[↓SB,S1,↓pW]
 refine ⟨fun h2=>?_,fun h2=>?_⟩
 ·have:max (cK t live self) 0=0:=by omega
  simp[h,this];omega
 ·have:max (cK t live self) 0=cK t live self:=by omega
  simp[h,this];omega
end Go.Xt
end
section
set_option linter.unusedSimpArgs false
set_option linter.unusedVariables false
set_option maxRecDepth 100000
namespace Go.Xt
def mk(live:List Int)(self:Int)(i:Nat):List Bool:=(List.range 8).map fun (n:Nat)=>((List.range i).map fun j=>mP live (o9 self j)).contains (n:Int)
theorem map_set{k m:Nat}{f g:Nat→Bool}(h: ∀n,g n=(f n||decide (m=n))):(List.range k).map g=((List.range k).map f).set m true:=by
 refine List.ext_getElem (by simp) fun n h1 h2=>?_
 rw[List.getElem_set]
 simp only[List.getElem_map,List.getElem_range,h]
 by_cases e:m=n<;>simp[e]
theorem Cj{live:List Int}{self x:Int}(h3:live≠[])(h:x∈gB live self++[iP live self]):x= -1∨(x∈live∧x≠self):=by
 rw[List.mem_append,List.mem_singleton] at h
 rcases h with h | h
 ·right
  unfold gB at h
  rw[List.mem_filter] at h
  exact vE h3 (by simpa using h.2)
 ·rcases Ci live self with e | e
  ·left;rw[h,e]
  ·right;rw[h];exact e
theorem EW{t:Int}{live:List Int}{self:Int}(h3:live≠[])(h:0≤cK t live self):cK t live self∈live:=by
 rcases tk t live self with e | e
 ·omega
 ·rcases Cj h3 e.2 with h1 | h1
  ·omega
  ·exact h1.1
end Go.Xt
end
section
set_option linter.unusedSimpArgs false
set_option linter.unusedVariables false
set_option maxRecDepth 100000
namespace Go.Xt
set_option linter.defProp false
instance:FlatRow Call:=⟨fun a q hq=>by simp[Row.row] at hq;rcases hq with rfl | rfl | rfl<;>rfl⟩
instance:FlatRow Mark:=⟨fun a q hq=>by simp[Row.row] at hq;rcases hq with rfl | rfl | rfl<;>rfl⟩
instance:FlatRow Mark2:=⟨fun a q hq=>by simp[Row.row] at hq;rcases hq with rfl | rfl | rfl | rfl | rfl<;>rfl⟩
theorem fX{w:Nat}{k:PV→Prop}(h:0<w):OP (.rows w) [] k=k (.list []):=aq (by simp[ev,bh];omega)
theorem fY(l:List Peer)(hp:l.length≤1000000):WW ρ 1 bk ar l:=by
 simp only[ar,RR]
 unfold bk
 rw[mO]
 refine ⟨fun h=>?_,?_⟩
 ·subst h;simp (disch:=first|omega|assumption|(constructor<;>first|assumption|omega)|simp only[LN];omega) only[↓SB,S1]
  rfl
 ·simp (disch:=first|omega|assumption|(constructor<;>first|assumption|omega)|simp only[LN];omega) only[↓SB,S1,↓fX]
theorem fZ(l:List Call)(hp:l.length≤1000000):WW ρ 1 bm au l:=by
 simp only[au,RR]
 unfold bm
 rw[mO]
 refine ⟨fun h=>?_,?_⟩
 ·subst h;simp (disch:=first|omega|assumption|(constructor<;>first|assumption|omega)|simp only[LN];omega) only[↓SB,S1]
  rfl
 ·simp (disch:=first|omega|assumption|(constructor<;>first|assumption|omega)|simp only[LN];omega) only[↓SB,S1,↓fX]
theorem ga(l:List Mark)(hp:l.length≤1000000):WW ρ 1 bn av l:=by
 simp only[av,RR]
 unfold bn
 rw[mO]
 refine ⟨fun h=>?_,?_⟩
 ·subst h;simp (disch:=first|omega|assumption|(constructor<;>first|assumption|omega)|simp only[LN];omega) only[↓SB,S1]
  rfl
 ·simp (disch:=first|omega|assumption|(constructor<;>first|assumption|omega)|simp only[LN];omega) only[↓SB,S1,↓fX]
theorem eX(l:List Mark2)(hp:l.length≤1000000):WW ρ 1 bc ao l:=by
 simp only[ao,RR]
 unfold bc
 rw[mO]
 refine ⟨fun h=>?_,?_⟩
 ·subst h;simp (disch:=first|omega|assumption|(constructor<;>first|assumption|omega)|simp only[LN];omega) only[↓SB,S1]
  rfl
 ·simp (disch:=first|omega|assumption|(constructor<;>first|assumption|omega)|simp only[LN];omega) only[↓SB,S1,↓fX]
theorem gw(l:List Kid)(hp:l.length≤1000000):WW ρ 1 bu aA l:=by
 simp only[aA,RR]
 unfold bu
 rw[mO]
 refine ⟨fun h=>?_,?_⟩
 ·subst h;simp (disch:=first|omega|assumption|(constructor<;>first|assumption|omega)|simp only[LN];omega) only[↓SB,S1]
  rfl
 ·simp (disch:=first|omega|assumption|(constructor<;>first|assumption|omega)|simp only[LN];omega) only[↓SB,S1,↓fX]
theorem eY(l:List Event)(hp:l.length≤1000000):WW ρ 1 bd ap l:=by
 simp only[ap,RR]
 unfold bd
 rw[mO]
 refine ⟨fun h=>?_,?_⟩
 ·subst h;simp (disch:=first|omega|assumption|(constructor<;>first|assumption|omega)|simp only[LN];omega) only[↓SB,S1]
  rfl
 ·simp (disch:=first|omega|assumption|(constructor<;>first|assumption|omega)|simp only[LN];omega) only[↓SB,S1,↓fX]
theorem gb(l:List Item)(hp:l.length≤1000000):WW ρ 1 bp aw l:=by
 simp only[aw,RR]
 unfold bp
 rw[mO]
 refine ⟨fun h=>?_,?_⟩
 ·subst h;simp (disch:=first|omega|assumption|(constructor<;>first|assumption|omega)|simp only[LN];omega) only[↓SB,S1]
  rfl
 ·simp (disch:=first|omega|assumption|(constructor<;>first|assumption|omega)|simp only[LN];omega) only[↓SB,S1,↓fX]
theorem lK(l:List Int)(hp:l.length≤1000000):WW ρ 1 cW aM l:=by
 simp only[aM,RR]
 unfold cW
 rw[mO]
 refine ⟨fun h=>?_,?_⟩
 ·subst h;simp (disch:=first|omega|assumption|(constructor<;>first|assumption|omega)|simp only[LN];omega) only[↓SB,S1]
  rfl
 ·simp (disch:=first|omega|assumption|(constructor<;>first|assumption|omega)|simp only[LN];omega) only[↓SB,S1,↓fX]
def y9:=And.intro @be (And.intro @fW (And.intro @gu (@fV)))
theorem yb(x:Topic)(hp:fP x=false):WW ρ 16 lq ef x:=by
 simp only[ef,RR]
 unfold lq
 have hb:=oP hp
 simp (disch:=first|omega|assumption|(constructor<;>first|assumption|omega)|simp only[LN];omega) only[↓SB,S1,↓y9]
theorem At(x:Event):WW ρ 6 n6 fj x:=by
 simp only[fj,RR]
 unfold n6 lY ko
 simp (disch:=first|omega|assumption|(constructor<;>first|assumption|omega)|simp only[LN];omega) only[↓SB,S1]
 refine ⟨fun h=>?_,fun h=>⟨fun h2=>?_,fun h2=>?_⟩⟩ <;>simp[*]
def Au:=And.intro @be (@zT)
theorem Av(l:List Event)(limit:Int)(x:Event)(hp:l.length≤1000000)(hg:ay (dL (l,limit,x)).2.1):WW ρ 8 n9 dL (l,limit,x):=by
 simp only[dL,RR] at hg ⊢
 unfold n9 x8
 simp (disch:=first|omega|assumption|(constructor<;>first|assumption|omega)|simp only[LN];omega) only[↓SB,S1,↓Au]
 refine ⟨fun h=>?_,fun h=>?_⟩ <;>simp[h]
theorem Ck{l:List Event}{limit:Int}(h:bW l limit=true):2≤limit∧limit≤32∧(l.length:Int)≤limit∧l.all iQ=true:=by
 simp only[bW,Bool.and_eq_true,decide_eq_true_eq] at h
 obtain ⟨⟨⟨h1,h2⟩,h3⟩,_⟩:=h
 have:=cO h1
 exact ⟨this.1,this.2,h2,h3⟩
def fp:=And.intro @be (And.intro @od (And.intro @bw (@zS)))
theorem Aw(l:List Event)(limit:Int)(x:Event)(hg:ay (dK (l,limit,x)).2.1):WW ρ 8 n7 dK (l,limit,x):=by
 simp only[dK,RR] at hg ⊢
 unfold n7
 generalize hE:u4 l limit x=q
 refine SUB.v1 (bb (!(bW l limit&&iQ x))) ?_ ?_
 ·repeat' (first | apply And.intro | intro _ | simp (disch:=first|omega|assumption|(constructor<;>first|assumption|omega)|simp only[LN];omega) only[↓SB,S1,↓fp])
  all_goals simp_all
 unfold u4 at hE
 cases h0:(bW l limit&&iQ x)
 ·simp (disch:=first|omega|assumption|(constructor<;>first|assumption|omega)|simp only[LN];omega) only[↓SB,S1,↓fp]
  simp[h0] at hE;rw[←hE];rfl
 ·rw[if_pos h0] at hE
  simp only[Bool.and_eq_true] at h0
  have hb:=Ck h0.1
  simp (disch:=first|omega|assumption|(constructor<;>first|assumption|omega)|simp only[LN];omega) only[↓SB,S1,↓fp]
  refine ⟨fun h1=>?_,fun h1=>?_⟩
  ·rw[if_pos h1] at hE;rw[←hE]
  ·rw[if_neg h1] at hE
   cases h2:ko x
   ·simp (disch:=first|omega|assumption|(constructor<;>first|assumption|omega)|simp only[LN];omega) only[↓SB,S1,↓fp,h2]
    simp[h2] at hE;rw[←hE];rfl
   ·simp (disch:=first|omega|assumption|(constructor<;>first|assumption|omega)|simp only[LN];omega) only[↓SB,S1,↓fp,h2]
    rw[if_pos h2] at hE
    refine ⟨fun h3=>?_,fun h3=>?_⟩
    ·rw[if_pos h3] at hE;rw[←hE]
    ·rw[if_neg h3] at hE
     obtain ⟨k,hk⟩:=Int.eq_ofNat_of_zero_le (show 0≤limit-1 by omega)
     obtain ⟨y,hy⟩:=aL (xs:=l) (i:=k) (by omega)
     rw[hk] at hE ⊢
     have hgd:l.getD k sI=y:=by simp[List.getD_eq_getElem?_getD,hy]
     simp only[Int.toNat_natCast,hgd] at hE
     simp (disch:=first|omega|assumption|(constructor<;>first|assumption|omega)|simp only[LN];omega) only[↓SB,S1,↓fp,aB hy,↓D4,↓bt hy (j:=3) (v:=I (lY x).last) (y:={ y with last:=(lY x).last }) (by simp[Event.row_eq,List.set])]
     refine ⟨fun h4=>?_,fun h4=>⟨fun h5=>?_,fun h5=>?_⟩⟩
     ·rw[if_neg (fun h=>h4 h.1)] at hE;rw[←hE];rfl
     ·rw[if_neg (fun h=>h5 h.2)] at hE;rw[←hE];rfl
     ·rw[if_pos ⟨h4,h5⟩] at hE;rw[←hE]
theorem Ax(n:Node)(o:Int)(hg:ay (dM (n,o)).2.1):WW ρ 10 na dM (n,o):=by
 simp only[dM,RR] at hg ⊢
 unfold na zM
 simp only[ay,bK] at hg
 simp (disch:=first|omega|assumption|(constructor<;>first|assumption|omega)|simp only[LN];omega) only[↓SB,S1,↓dA]
 cases h:rng o 0 (n.peers.length-1)
 ·simp (disch:=first|omega|assumption|(constructor<;>first|assumption|omega)|simp only[LN];omega) only[↓SB,S1,↓dA,h]
  simp
 ·have hb:=cO h
  obtain ⟨k,rfl⟩:=Int.eq_ofNat_of_zero_le hb.1
  obtain ⟨y,hy⟩:=aL (xs:=n.peers) (i:=k) (by omega)
  simp (disch:=first|omega|assumption|(constructor<;>first|assumption|omega)|simp only[LN];omega) only[↓SB,S1,↓dA,h,aB hy]
  simp[List.getD_eq_getElem?_getD,hy]
theorem yc(l:List Peer)(n:Int)(hg:ay (dq (l,n)).2.1):WW ρ 2 lr dq (l,n):=by
 simp only[dq,RR] at hg ⊢
 unfold lr jC
 cases h:bf l
 ·simp (disch:=first|omega|assumption|(constructor<;>first|assumption|omega)|simp only[LN];omega) only[↓SB,S1,↓io,h]
  simp
 ·simp (disch:=first|omega|assumption|(constructor<;>first|assumption|omega)|simp only[LN];omega) only[↓SB,S1,↓io,h]
  refine ⟨fun h1=>?_,fun h1=>⟨fun h2=>?_,fun h2=>?_⟩⟩
  ·rw[if_neg (by omega)]
  ·rw[if_neg (by omega)]
  ·rw[if_pos (by omega)]
theorem FS{l:List Peer}{n:Int}(h:jC l n=0):bf l=true∧0≤n∧n<l.length:=by
 unfold jC at h
 split at h
 ·split at h
  ·rename_i h1 h2;exact ⟨h1,h2.1,h2.2⟩
  ·omega
 ·omega
theorem kv{l:List Peer}(h:bf l=true):1≤l.length∧l.length≤8:=by
 simp only[bf,Bool.and_eq_true,decide_eq_true_eq] at h;exact h.1
theorem Ay(l:List Peer)(self:Int)(hg:ay (cQ (l,self)).2.1):WW ρ 2 nb cQ (l,self):=by
 simp only[cQ,RR] at hg ⊢
 unfold nb
 generalize hE:gM l self=q
 simp (disch:=first|omega|assumption|(constructor<;>first|assumption|omega)|simp only[LN];omega) only[↓SB,S1,↓lF]
 refine ⟨fun h=>?_,fun h=>?_⟩
 ·rw[if_neg h];rfl
 obtain ⟨h1,h2,h3⟩:=FS h
 have hb:=kv h1
 refine aO.rule (α:=Nat×List Int) (fun p=>[I p.1,L p.2]) (fun p=>p.1≤l.length∧p.2.length≤p.1∧p.2++eR self p.1 (l.drop p.1)=q) (fun p=>l.length-p.1) (0,[]) rfl ⟨by simp,by simp,by simpa[gM] using hE⟩ (fun _=>rfl) ?_
 rintro ⟨i,a⟩ ⟨hi,ha,hs⟩
 simp only at hi ha hs
 simp only[app]
 simp (disch:=first|omega|assumption|(constructor<;>first|assumption|omega)|simp only[LN];omega) only[↓SB,S1,↓lF]
 refine ⟨fun h4=>?_,fun h4=>?_⟩
 ·obtain ⟨x,hx⟩:=aL h4
  rw[aT hx,eR] at hs
  simp (disch:=first|omega|assumption|(constructor<;>first|assumption|omega)|simp only[LN];omega) only[↓SB,S1,↓lF,aB hx]
  refine ⟨fun h5=>⟨(i+1,a++[(i:Int)]),rfl,⟨by simp;omega,by simp;omega,?_⟩,by simp;omega⟩,fun h5=>⟨fun h6=>⟨fun h7=>⟨(i+1,a++[(i:Int)]),rfl,⟨by simp;omega,by simp;omega,?_⟩,by simp;omega⟩,fun h7=>⟨(i+1,a),rfl,⟨by simp;omega,by simp;omega,?_⟩,by simp;omega⟩⟩,fun h6=>⟨(i+1,a),rfl,⟨by simp;omega,by simp;omega,?_⟩,by simp;omega⟩⟩⟩
  ·rw[if_pos (.inl h5)] at hs;simpa using hs
  ·rw[if_pos (.inr ⟨h6,h7⟩)] at hs;simpa using hs
  ·rw[if_neg (show ¬((i:Int)=self∨(0<x.inc∧x.age<4)) by omega)] at hs;simpa using hs
  ·rw[if_neg (show ¬((i:Int)=self∨(0<x.inc∧x.age<4)) by omega)] at hs;simpa using hs
 ·rw[aQ h4] at hs
  simp[eR] at hs;simp[h,hs]
theorem Az{self:Int}: ∀(l:List Peer) (i x:Int),x∈eR self i l→i≤x∧x<i+l.length
 | [],_,_,h=>by simp[eR] at h
 | p::r,i,x,h=>by
  rw[eR,List.mem_append] at h
  rcases h with h | h
  ·split at h
   ·rw[List.mem_singleton] at h;subst h;simp;omega
   ·simp at h
  ·have:=Az r (i+1) x h;simp;omega
theorem vF{self:Int}: ∀(l:List Peer) (i:Int),i≤self→self<i+l.length→self∈eR self i l
 | [],i,h0,h1=>by simp at h1;omega
 | p::r,i,h0,h1=>by
  rw[eR,List.mem_append]
  by_cases e:i=self
  ·left;rw[if_pos (.inl e),e];simp
  ·right;exact vF r (i+1) (by omega) (by simp at h1;omega)
theorem yd{self:Int}: ∀(l:List Peer) (i p:Int),0≤i→p<i→i+l.length≤8→iO p (eR self i l)=true
 | [],_,_,_,_,_=>rfl
 | q::r,i,p,h0,h1,h2=>by
  simp only[List.length_cons] at h2
  rw[eR]
  split
  ·simp only[List.singleton_append,iO,Bool.and_eq_true,decide_eq_true_eq]
   exact ⟨⟨iv.2 (by omega),h1⟩,yd r (i+1) i (by omega) (by omega) (by omega)⟩
  ·exact yd r (i+1) p (by omega) (by omega) (by omega)
theorem tp{l:List Peer}{self:Int}(h:bf l=true)(h0:0≤self)(h1:self<l.length):x4 (gM l self) self=0:=by
 have hb:=kv h
 unfold x4
 rw[if_pos]
 simp only[Bool.and_eq_true]
 exact ⟨yd l 0 (-1) (by omega) (by omega) (by omega),List.contains_iff_mem.2 (vF l 0 h0 (by omega))⟩
theorem AA(t:Int)(live:List Int)(self:Int): -1≤cK t live self:=by
 rcases tk t live self with h | h
 ·omega
 ·have:=(np h.1).2.1;omega
def AB:=And.intro @re (@xg)
theorem AC(self:Int)(n:Node)(t:Int)(hp:bf n.peers=true∧rng self 0 (n.peers.length-1)=true∧isT t=true)(hg:ay (dN (self,n,t)).2.1):WW ρ 11 nc dN (self,n,t):=by
 simp only[dN,RR] at hg ⊢
 unfold nc
 obtain ⟨h1,h2,h3⟩:=hp
 have hb:=kv h1
 have hr:=cO h2
 have hpl:jC n.peers self=0:=by unfold jC;rw[if_pos h1,if_pos (by omega)]
 have hc:=tp h1 hr.1 (by omega)
 have ha:mQ t (gM n.peers self) self=0:=by unfold mQ;rw[if_pos hc,if_pos h3]
 simp (disch:=first|omega|assumption|(constructor<;>first|assumption|omega)|simp only[LN];omega) only[↓SB,S1,↓AB,hpl,ha]
 simp
 refine ⟨fun h=>?_,fun h=>?_⟩
 ·have:=AA t (gM n.peers self) self;omega
 ·omega
end Go.Xt
end
section
set_option linter.unusedSimpArgs false
set_option linter.unusedVariables false
set_option maxRecDepth 100000
namespace Go.Xt
theorem jb{k:PV→Prop}{a b d e f g h i j l m o p q:Int}:OP (.rows 16) [I a,I b,I d,I e,I f,I g,I h,I i,I j,I l,I m,I o,I p,I q,.list [],.list []] k=k (L [(⟨a,b,d,e,f,g,h,i,j,l,m,o,p,q,[],[]⟩:Msg)]):=vr (a_path:=[]) (a_todo:=[])
structure DoesOk (self:Int) (n:Node) (t:Int):Prop where
 ht:isT t=true
 hl:t<n.topics.length
 hp:bf n.peers=true
 hs:rng self 0 (n.peers.length-1)=true
 hk:(D5 n t).kids.length≤8
 h8:(D5 n t).parent≤8
 h0:0≤(D5 n t).parent
 hc:n.calls.length≤100
 hm:n.taken.length≤100
 hq:(D5 n t).queue.length≤1000
end Go.Xt
end
section
set_option linter.unusedSimpArgs false
set_option linter.unusedVariables false
set_option maxRecDepth 100000
namespace Go.Xt
structure NOk (c:Config) (me:Int) (n:Node):Prop where
 inc:cnt n.inc=true
 pubs:rng n.pubs 0 1073741824=true
 asks:rng n.asks 0 40=true
 calls:dX c n.asks 0 n.calls=true
 cl:n.calls.length≤40
 pl:(n.peers.length:Int)=c.nodes
 tl:(n.topics.length:Int)=c.topics
 ml:(n.marks.length:Int)=c.nodes
 kl:n.taken.length≤64
 tops:aU c me 0 n.topics=true
 peers:bf n.peers=true
 marks:n.marks.all oF=true
 taken:n.taken.all (nO c)=true
theorem Cl{c:Config}{self:Int}{n:Node}:mT c self n=true↔NOk c self n:=by
 constructor
 ·intro h
  simp only[mT,Bool.and_eq_true,decide_eq_true_eq] at h
  obtain ⟨⟨⟨⟨⟨⟨⟨⟨⟨⟨⟨⟨a,b⟩,d⟩,e⟩,f⟩,g⟩,i⟩,j⟩,k⟩,l⟩,m⟩,o⟩,p⟩:=h
  exact ⟨a,b,d,e,f,g,i,j,k,l,m,o,p⟩
 ·rintro ⟨a,b,d,e,f,g,i,j,k,l,m,o,p⟩
  simp only[mT,Bool.and_eq_true,decide_eq_true_eq]
  exact ⟨⟨⟨⟨⟨⟨⟨⟨⟨⟨⟨⟨a,b⟩,d⟩,e⟩,f⟩,g⟩,i⟩,j⟩,k⟩,l⟩,m⟩,o⟩,p⟩
theorem EX{c:Config}{self:Int}{n:Node}(h:il c self n=0):bM c=true∧rng self 0 (c.nodes-1)=true∧n.up=true∧NOk c self n:=by
 unfold il at h
 split at h
 ·split at h
  ·split at h
   ·rename_i h1 h2 h3
    rw[Bool.and_eq_true] at h2
    exact ⟨h1,h2.1,h2.2,Cl.1 h3⟩
   ·omega
  ·omega
 ·omega
theorem pX{c:Config}{self:Int}: ∀ {l:List Topic} {t:Int} {k:Nat} {x:Topic},aU c self t l=true→l[k]? =some x→aC c (t+k) self x=true
 | [],_,_,_,_,h=>by simp at h
 | y::r,t,0,x,h,hx=>by
  rw[aU,Bool.and_eq_true] at h
  simp at hx;subst hx;simpa using h.1
 | y::r,t,k+1,x,h,hx=>by
  rw[aU,Bool.and_eq_true] at h
  have:=pX (k:=k) (x:=x) h.2 (by simpa using hx)
  rw[show t+1+(k:Int)=t+((k+1:Nat):Int) by omega] at this;exact this
theorem AD{c:Config}{self:Int}: ∀ {l:List Topic} {t:Int} {k:Nat} {x:Topic},aU c self t l=true→aC c (t+k) self x=true→aU c self t (l.set k x)=true
 | [],_,_,_,_,h=>rfl
 | y::r,t,0,x,h,hx=>by
  rw[aU,Bool.and_eq_true] at h
  rw[List.set_cons_zero,aU,Bool.and_eq_true]
  exact ⟨by simpa using hx,h.2⟩
 | y::r,t,k+1,x,h,hx=>by
  rw[aU,Bool.and_eq_true] at h
  rw[List.set_cons_succ,aU,Bool.and_eq_true]
  exact ⟨h.1,AD h.2 (by rw[show t+1+(k:Int)=t+((k+1:Nat):Int) by omega];exact hx)⟩
theorem FT{t n c:Int}{xs:List Int}(h:chk t n xs c=0):(xs.length:Int)≤c:=by
 unfold chk at h
 split at h
 ·split at h
  ·omega
  ·omega
 ·omega
structure TBd (c:Config) (x:Topic):Prop where
 path:x.path.length≤8
 kids:x.kids.length≤4
 kept:x.stream.kept.length≤16
 ahead:x.stream.ahead.length≤16
 queue:x.queue.length≤32
theorem EY{c:Config}{t self:Int}{x:Topic}(hc:bM c=true)(h:aC c t self x=true):TBd c x∧0≤x.parent∧x.parent≤8:=by
 have hb:=nq hc
 have hf:=Ca hc h
 simp only[Ev,Bool.or_eq_false_iff,decide_eq_false_iff_not] at hf
 obtain ⟨⟨⟨f1,f2⟩,f3⟩,f4⟩:=hf
 simp only[aC,Bool.and_eq_true,decide_eq_true_eq] at h
 have hp:=FT h.1.1.2
 have hl:=nQ h.1.1.1.1.1.1.1.2
 exact ⟨⟨by omega,by omega,by omega,by omega,by omega⟩,hl⟩
theorem fq{c:Config}{t self:Int}{x:Topic}(hc:bM c=true)(h:aC c t self x=true):fP x=false:=by
 obtain ⟨⟨a,b,d,e,f⟩,_⟩:=EY hc h
 simp[fP,x7];omega
end Go.Xt
end
section
set_option linter.unusedSimpArgs false
set_option linter.unusedVariables false
set_option maxRecDepth 100000
namespace Go.Xt
theorem jv{l:List Event}{limit:Int}:bW l limit=true↔rng limit 2 32=true∧(l.length:Int)≤limit∧l.all iQ=true∧((l.length:Int)<limit∨ii l=true):=by
 simp only[bW,Bool.and_eq_true,Bool.or_eq_true,decide_eq_true_eq,and_assoc]
theorem GX{x:Event}(h:iQ x=true)(hs:ko x=true):iQ (lY x)=true∧(lY x).kind=2∧(lY x).seq≤(lY x).last∧(lY x).last≤1073741824∧1≤(lY x).seq:=by
 simp only[ko,Bool.or_eq_true,decide_eq_true_eq] at hs
 unfold iQ at h
 unfold lY
 by_cases h1:x.kind=1
 ·rw[if_pos h1] at h ⊢
  simp only[Bool.and_eq_true,decide_eq_true_eq,cnt,rng] at h
  obtain ⟨⟨⟨⟨h2,h3⟩,_⟩,_⟩,_⟩:=h
  simp[iQ,h2,cnt,rng,h3]
 ·have h2:x.kind=2:=by omega
  rw[if_neg h1,if_pos h2] at h
  rw[if_neg h1,if_pos h2]
  refine ⟨by unfold iQ;rw[if_neg h1,if_pos h2];exact h,h2,?_⟩
  simp only[Bool.and_eq_true,decide_eq_true_eq,cnt,rng] at h
  omega
theorem AE{l:List Event}{x:Event}(h:x.kind=2):ii (l++[x])=true:=by simp[ii,h]
theorem GY{l:List Event}{limit:Int}{x:Event}(h:(u4 l limit x).2=0):bW (u4 l limit x).1 limit=true:=by
 unfold u4 at h ⊢
 split at h
 ·rename_i h0
  rw[if_pos h0]
  rw[Bool.and_eq_true] at h0
  obtain ⟨hr,hl,ha,hg⟩:=jv.1 h0.1
  have hrb:=cO hr
  split at h
  ·rename_i h1
   rw[if_pos h1]
   refine jv.2 ⟨hr,by simp;omega,by simp only[List.all_append,ha,List.all_cons,List.all_nil,h0.2,Bool.and_self],.inl (by simp;omega)⟩
  ·rename_i h1
   rw[if_neg h1]
   split at h
   ·rename_i h2
    rw[if_pos h2]
    obtain ⟨g1,g2,g3,g4,g5⟩:=GX h0.2 h2
    split at h
    ·rename_i h3
     rw[if_pos h3]
     refine jv.2 ⟨hr,by simp;omega,by simp only[List.all_append,ha,List.all_cons,List.all_nil,g1,Bool.and_self],.inr (AE g2)⟩
    ·rename_i h3
     rw[if_neg h3]
     split at h
     ·rename_i h4
      rw[if_pos h4]
      have hlen:(l.length:Int)=limit:=by omega
      obtain ⟨j,hj⟩: ∃j,l.length=j+1:=⟨l.length-1,by omega⟩
      have e1:(limit-1).toNat=j:=by omega
      rw[e1] at h4 ⊢
      have hjl:j<l.length:=by omega
      have hy:l.getD j sI=l[j]:=by simp[List.getD_eq_getElem?_getD,hjl]
      rw[hy] at h4 ⊢
      have hlg:ii l=true:=by rcases hg with hg | hg;omega;exact hg
      have hk:l[j].kind=2:=by
       have:l.getLast? =some l[j]:=by rw[List.getLast?_eq_getElem?,hj,Nat.add_sub_cancel];simp[hjl]
       simp only[ii,this,decide_eq_true_eq] at hlg;exact hlg
      rw[List.all_eq_true] at ha
      have hev:=ha l[j] (List.getElem_mem hjl)
      unfold iQ at hev
      rw[if_neg (by omega),if_pos hk] at hev
      simp only[Bool.and_eq_true,decide_eq_true_eq,cnt,rng] at hev
      have hw:IntKind.i64.wrap (l[j].last+1)=l[j].last+1:=wr (by omega) (by omega)
      rw[hw] at h4
      have hnew:iQ { l[j] with last:=(lY x).last }=true:=by
       unfold iQ
       rw[if_neg (by show ¬l[j].kind=1;omega),if_pos hk]
       simp only[Bool.and_eq_true,decide_eq_true_eq,cnt,rng]
       obtain ⟨⟨⟨⟨d1,d2⟩,d3⟩,d4⟩,d5⟩:=hev
       exact ⟨⟨⟨⟨d1,d2⟩,by omega,by omega⟩,d4⟩,d5⟩
      refine jv.2 ⟨hr,by simpa using hl,?_,.inr ?_⟩
      ·rw[List.all_eq_true]
       intro y hy
       rcases List.mem_or_eq_of_mem_set hy with hy | hy
       ·exact ha y hy
       ·rw[hy];exact hnew
      ·have:(l.set j { l[j] with last:=(lY x).last }).getLast? =some { l[j] with last:=(lY x).last }:=by
        rw[List.getLast?_eq_getElem?,List.length_set,hj,Nat.add_sub_cancel];simp[hjl]
       unfold ii;rw[this];exact decide_eq_true hk
     ·omega
   ·omega
 ·omega
theorem GZ{l:List Event}{limit:Int}{x:Event}(h:bW l limit=true):bW (x8 l limit x) limit=true:=by
 unfold x8
 split
 ·rename_i h0;exact GY h0
 ·exact h
theorem AF{c:Config}{t self:Int}{x:Topic}{q:List Event}(h:aC c t self x=true)(hq:bW q c.queue=true):aC c t self { x with queue:=q }=true:=by
 simp only[aC,mS,Bool.and_eq_true] at h ⊢
 exact ⟨h.1,h.2.1,hq⟩
theorem FU{c:Config}{t self:Int}{x:Topic}(h:aC c t self x=true):bW x.queue c.queue=true:=by
 simp only[aC,mS,Bool.and_eq_true] at h;exact h.2.2
theorem Db{c:Config}{self:Int}{l:List Topic}{t:Int}{x:Event}(h:aU c self 0 l=true)(h0:0≤t)(h1:t<l.length):aU c self 0 (BT c l t x)=true∧(BT c l t x).length=l.length:=by
 obtain ⟨k,rfl⟩:=Int.eq_ofNat_of_zero_le h0
 obtain ⟨y,hy⟩:=aL h1
 have hgd:l.getD k bZ=y:=by simp[List.getD_eq_getElem?_getD,hy]
 unfold BT
 rw[Int.toNat_natCast,hgd]
 refine ⟨AD h ?_,by simp⟩
 have:=pX h hy
 exact AF this (GZ (FU this))
end Go.Xt
end
section
set_option linter.unusedSimpArgs false
set_option linter.unusedVariables false
set_option maxRecDepth 100000
namespace Go.Xt
structure VOk (c:Config) (x:Msg):Prop where
 t:rng x.topic 0 (c.topics-1)=true
 o:rng x.node 0 (c.nodes-1)=true
 i:cnt x.inc=true
 k:rng x.count 1 40=true
 v:val x.value=true
def wN0:Node:=⟨true,1,List.replicate 8 ⟨0,0⟩,List.replicate 4 bZ,[],0,0,List.replicate 8 ⟨0,0,0⟩,[]⟩
end Go.Xt
end
section
set_option linter.unusedSimpArgs false
set_option linter.unusedVariables false
set_option maxRecDepth 100000
namespace Go.Xt
set_option linter.defProp false
theorem jc: ∀(ls:List (List Int)) (i:Nat),((ls.take i).flatten).length≤ls.flatten.length
 | [],i=>by simp
 | l::r,0=>by simp
 | l::r,i+1=>by
  have:=jc r i
  simp only[List.take_succ_cons,List.flatten_cons,List.length_append];omega
theorem vG{ls:List (List Int)}{i:Nat}{x:List Int}(hx:ls[i]? =some x):(ls.take (i+1)).flatten=(ls.take i).flatten++x:=by
 rw[List.take_add_one,hx];simp
theorem kw(ls:List (List Int))(hp:ls.flatten.length≤1000000)(hg:ay (aG ls).2.1):WW ρ 1 cM aG ls:=by
 simp only[aG,RR] at hg ⊢
 unfold cM
 simp only[ay,bK] at hg
 simp (disch:=first|omega|assumption|(constructor<;>first|assumption|omega)|simp only[LN];omega) only[↓SB,S1,↓aW]
 refine aO.rule (α:=Nat) (fun i=>[I (((ls.take i).flatten).length:Nat),I i]) (fun i=>i≤ls.length) (fun i=>ls.length-i) 0 rfl (by omega) (fun _=>rfl) ?_
 intro i hl
 have hi1:=jc ls i
 simp only[app]
 simp (disch:=first|omega|assumption|(constructor<;>first|assumption|omega)|simp only[LN];omega) only[↓SB,S1,↓aW]
 refine ⟨fun h=>?_,fun h=>?_⟩
 ·obtain ⟨x,hx⟩:=aL h
  have hft:=vG hx
  have hi2:=jc ls (i+1)
  rw[hft,List.length_append] at hi2
  simp (disch:=first|omega|assumption|(constructor<;>first|assumption|omega)|simp only[LN];omega) only[↓SB,S1,↓aW,aB hx]
  refine ⟨fun h=>by omega,fun _=>⟨i+1,?_,by omega,by omega⟩⟩
  rw[hft];simp
 ·rw[List.take_of_length_le (by omega)]
  have hpre:([]:List Int)=[]∧(0:Int)≤(ls.flatten.length:Int)∧(ls.flatten.length:Int)≤1000000:=⟨rfl,by omega,by omega⟩
  simp (disch:=first|omega|assumption|(constructor<;>first|assumption|omega)|simp only[LN];omega) only[↓SB,S1,↓aW]
  refine aO.rule (α:=Nat) (fun i=>[I i,L ((ls.take i).flatten)]) (fun i=>i≤ls.length) (fun i=>ls.length-i) 0 rfl (by omega) (fun _=>rfl) ?_
  intro j hj
  have hi1:=jc ls j
  simp only[app]
  simp (disch:=first|omega|assumption|(constructor<;>first|assumption|omega)|simp only[LN];omega) only[↓SB,S1,↓aW]
  refine ⟨fun h=>?_,fun h=>?_⟩
  ·obtain ⟨x,hx⟩:=aL h
   have hft:=vG hx
   have hi2:=jc ls (j+1)
   rw[hft,List.length_append] at hi2
   simp (disch:=first|omega|assumption|(constructor<;>first|assumption|omega)|simp only[LN];omega) only[↓SB,S1,↓aW,aB hx]
   refine ⟨j+1,?_,by omega,by omega⟩
   rw[hft];simp
  ·rw[List.take_of_length_le (by omega)]
def Cm:=And.intro @cg (@aS)
theorem Cn(m:Msg):WW ρ 16 oK gp m:=by
 simp only[gp,RR]
 unfold oK BU
 simp (disch:=first|omega|assumption|(constructor<;>first|assumption|omega)|simp only[LN];omega) only[↓S0,S3,S2,S1,↓Cm]
 cases isN m.frm<;>cases isN m.to<;>simp
def AG:=And.intro @kr (@aS)
theorem AH(m:Msg):WW ρ 16 nd fk m:=by
 simp only[fk,RR]
 unfold nd sJ
 simp (disch:=first|omega|assumption|(constructor<;>first|assumption|omega)|simp only[LN];omega) only[↓S0,S3,S2,S1,↓AG]
 cases rng m.epoch 1 1073741824<;>simp
def AJ:=And.intro @cS (And.intro @kr (And.intro @cg (@aS)))
theorem AK(m:Msg):WW ρ 16 ng fm m:=by
 simp only[fm,RR]
 unfold ng qw
 simp (disch:=first|omega|assumption|(constructor<;>first|assumption|omega)|simp only[LN];omega) only[↓S0,S3,S2,S1,↓AJ]
 cases isN m.node<;>cases cnt m.inc<;>cases val m.value<;>simp
theorem tq{α:Type}[DecidableEq α]{l:List α}{i:Nat}{x:α}(hx:l[i]? =some x):(l.take (i+1)).Nodup↔(l.take i).Nodup∧x∉l.take i:=by
 rw[List.take_add_one,hx,Option.toList_some,List.nodup_append]
 constructor
 ·rintro ⟨h1,_,h3⟩
  exact ⟨h1,fun hm=>h3 x hm x (by simp) rfl⟩
 ·rintro ⟨h1,h2⟩
  refine ⟨h1,by simp,fun a ha b hb=>?_⟩
  rw[List.mem_singleton] at hb
  subst hb
  rintro rfl;exact h2 ha
theorem DQ{α:Type}{l:List α}{i:Nat}(h:l.Nodup):(l.take i).Nodup:=List.Nodup.sublist (List.take_sublist _ _) h
theorem ye(l:List Int)(hg:ay (dr l).2.1):WW ρ 1 lu dr l:=by
 simp only[dr,RR] at hg ⊢
 unfold lu
 simp only[ay,bK] at hg
 generalize hE:decide l.Nodup=q
 simp (disch:=first|omega|assumption|(constructor<;>first|assumption|omega)|simp only[LN];omega) only[↓SB,S1,↓aV]
 refine aO.rule (α:=Nat) (fun i=>[I i]) (fun i=>i≤l.length∧(l.take i).Nodup) (fun i=>l.length-i) 0 rfl ⟨by omega,by simp⟩ (fun _=>rfl) ?_
 rintro i ⟨hl,hs⟩
 simp only[app]
 simp (disch:=first|omega|assumption|(constructor<;>first|assumption|omega)|simp only[LN];omega) only[↓SB,S1,↓aV]
 refine ⟨fun h=>?_,fun h=>?_⟩
 ·obtain ⟨x,hx⟩:=aL h
  simp (disch:=first|omega|assumption|(constructor<;>first|assumption|omega)|simp only[LN];omega) only[↓SB,S1,↓aV,aB hx,Int.toNat_natCast]
  refine ⟨fun h3=>?_,fun h3=>⟨i+1,rfl,⟨by omega,(tq hx).2 ⟨hs,fun hm=>?_⟩⟩,by omega⟩⟩
  ·rw[←hE]
   have: ¬l.Nodup:=fun hn=>((tq hx).1 (DQ hn)).2 (by simpa using h3)
   simp[this]
  ·have:(l.take i).contains x=true:=by simpa using hm
   rw[h3] at this;cases this
 ·rw[List.take_of_length_le (by omega)] at hs
  rw[←hE];simp[hs]
def DR:=And.intro @oN (@pS)
theorem DS(l:List Int)(hg:ay (gr l).2.1):WW ρ 1 qB gr l:=by
 simp only[gr,RR] at hg ⊢
 unfold qB oa
 simp (disch:=first|omega|assumption|(constructor<;>first|assumption|omega)|simp only[LN];omega) only[↓SB,S1,↓DR]
 refine ⟨fun h=>?_,fun h=>?_⟩
 ·have e:decide (l.length≤8)=true:=by simp;omega
  rw[e]
  cases l.all isN<;>simp
 ·have e:decide (l.length≤8)=false:=by simp;omega
  simp[e]
def aR:=And.intro @cS (And.intro @kr (And.intro @cg (And.intro @aS (And.intro @Dy (And.intro @zW (And.intro @zX (And.intro @pS (@ku))))))))
theorem Co(m:Msg)(hg:ay (eV m).2.1):WW ρ 16 oL eV m:=by
  simp only[eV,RR] at hg ⊢
  unfold oL
  simp only[ay,fG,bK] at hg
  generalize hE:lU m=q
  simp (disch:=first|omega|assumption|(constructor<;>first|assumption|omega)|simp only[LN];omega) only[↓SB,S1,↓aR]
  refine SUB.v1 (bb (decide (m.kind=1)||decide (m.kind=5)||decide (m.kind=6))) ?_ ?_
  · repeat' (first | apply And.intro | intro _ | simp (disch:=first|omega|assumption|(constructor<;>first|assumption|omega)|simp only[LN];omega) only[↓SB,S1,↓aR])
    all_goals simp_all
  unfold lU at hE
  by_cases k1:m.kind=1∨m.kind=5∨m.kind=6
  · rw[if_pos k1] at hE
    have e:(decide (m.kind=1)||decide (m.kind=5)||decide (m.kind=6))=true:=by simp;omega
    simp (disch:=first|omega|assumption|(constructor<;>first|assumption|omega)|simp only[LN];omega) only[↓SB,S1,↓aR,e]
    rw[←hE]
  rw[if_neg k1] at hE
  have e:(decide (m.kind=1)||decide (m.kind=5)||decide (m.kind=6))=false:=by simp;omega
  simp (disch:=first|omega|assumption|(constructor<;>first|assumption|omega)|simp only[LN];omega) only[↓SB,S1,↓aR,e]
  refine ⟨fun k2=>?_,fun k2=>?_⟩
  · rw[if_pos k2] at hE
    rw[←hE]
    repeat' (first | apply And.intro | intro _ | simp (disch:=first|omega|assumption|(constructor<;>first|assumption|omega)|simp only[LN];omega) only[↓SB,S1,↓aR])
    all_goals simp_all
  rw[if_neg k2] at hE
  refine ⟨fun k3=>?_,fun k3=>?_⟩
  · rw[if_pos k3] at hE
    rw[←hE]
    have eL:(PV.list []:PV)=L ([]:List Int):=rfl
    cases hpa:m.path with
    | nil =>
      repeat' (first | apply And.intro | intro _ | simp (disch:=first|omega|assumption|(constructor<;>first|assumption|omega)|simp only[LN];omega) only[↓SB,S1,↓aR])
      all_goals (rw[eL];simp_all)
    | cons p r =>
      have hc0:(L (p::r)).cellAt (I 0) 0=I p:=aB (i:=0) (x:=p) rfl
      repeat' (first | apply And.intro | intro _ | simp (disch:=first|omega|assumption|(constructor<;>first|assumption|omega)|simp only[LN];omega) only[↓SB,S1,↓aR,hc0,eL])
      all_goals simp_all
  rw[if_neg k3] at hE
  refine ⟨fun k4=>?_,fun k4=>?_⟩
  · rw[if_pos k4] at hE
    rw[←hE]
    repeat' (first | apply And.intro | intro _ | simp (disch:=first|omega|assumption|(constructor<;>first|assumption|omega)|simp only[LN];omega) only[↓SB,S1,↓aR])
    all_goals simp_all
  rw[if_neg k4] at hE
  refine ⟨fun k7=>?_,fun k7=>?_⟩
  · rw[if_pos k7] at hE
    rw[←hE]
    repeat' (first | apply And.intro | intro _ | simp (disch:=first|omega|assumption|(constructor<;>first|assumption|omega)|simp only[LN];omega) only[↓SB,S1,↓aR])
    all_goals simp_all
  rw[if_neg k7] at hE
  refine ⟨fun k8=>?_,fun k8=>?_⟩
  · rw[if_pos k8] at hE
    rw[←hE]
    repeat' (first | apply And.intro | intro _ | simp (disch:=first|omega|assumption|(constructor<;>first|assumption|omega)|simp only[LN];omega) only[↓SB,S1,↓aR])
    all_goals simp_all
  rw[if_neg k8] at hE
  refine ⟨fun k9=>?_,fun k9=>?_⟩
  · rw[if_pos k9] at hE
    rw[←hE]
    repeat' (first | apply And.intro | intro _ | simp (disch:=first|omega|assumption|(constructor<;>first|assumption|omega)|simp only[LN];omega) only[↓SB,S1,↓aR])
    all_goals simp_all
  rw[if_neg k9] at hE
  refine ⟨fun k10=>?_,fun k10=>?_⟩
  · rw[if_pos k10] at hE
    rw[←hE]
    repeat' (first | apply And.intro | intro _ | simp (disch:=first|omega|assumption|(constructor<;>first|assumption|omega)|simp only[LN];omega) only[↓SB,S1,↓aR])
    all_goals simp_all
  rw[if_neg k10] at hE
  refine ⟨fun k11=>?_,fun k11=>?_⟩
  · rw[if_pos k11] at hE
    rw[←hE]
    cases hpa:oa m.path with
    | false => repeat' (first | apply And.intro | intro _ | simp (disch:=first|omega|assumption|(constructor<;>first|assumption|omega)|simp only[LN];omega) only [↓SB, S1, ↓aR])
               all_goals simp_all[show (PV.list []:PV)=L ([]:List Int) from rfl]
    | true =>
    cases hto:oa m.todo with
    | false => repeat' (first | apply And.intro | intro _ | simp (disch:=first|omega|assumption|(constructor<;>first|assumption|omega)|simp only[LN];omega) only [↓SB, S1, ↓aR])
               all_goals simp_all[show (PV.list []:PV)=L ([]:List Int) from rfl]
    | true =>
      have hfl:([m.path,m.todo].flatten).length≤1000000:=by
        simp only[oa,Bool.and_eq_true,decide_eq_true_eq] at hpa hto
        simp;omega
      repeat' (first | apply And.intro | intro _ | simp (disch:=first|omega|assumption|(constructor<;>first|assumption|omega)|simp only[LN];omega) only[↓SB,S1,↓aR])
      all_goals simp_all[show (PV.list []:PV)=L ([]:List Int) from rfl]
  rw[if_neg k11] at hE
  refine ⟨fun k12=>?_,fun k12=>?_⟩
  · rw[if_pos k12] at hE
    rw[←hE]
    repeat' (first | apply And.intro | intro _ | simp (disch:=first|omega|assumption|(constructor<;>first|assumption|omega)|simp only[LN];omega) only[↓SB,S1,↓aR])
    all_goals simp_all
  rw[if_neg k12] at hE
  refine ⟨fun k13=>?_,fun k13=>?_⟩
  · rw[if_pos k13] at hE
    rw[←hE]
    repeat' (first | apply And.intro | intro _ | simp (disch:=first|omega|assumption|(constructor<;>first|assumption|omega)|simp only[LN];omega) only[↓SB,S1,↓aR])
    all_goals simp_all
  rw[if_neg k13] at hE
  rw[←hE]
def gO:=And.intro @kr (And.intro @aS (And.intro @BX (@BW)))
theorem AL(m:Msg)(hg:ay (dO m).2.1):WW ρ 16 nh dO m:=by
 simp only[dO,RR] at hg ⊢
 unfold nh
 simp only[ay,fG,bK] at hg
 simp (disch:=first|omega|assumption|(constructor<;>first|assumption|omega)|simp only[LN];omega) only[↓SB,S1,↓gO]
 refine SUB.v1 (bb (sK m)) ?_ ?_
 ·unfold sK
  refine ⟨fun k=>?_,fun k=>?_⟩
  ·rw[if_pos k]
   repeat' (first | apply And.intro | intro _ | simp (disch:=first|omega|assumption|(constructor<;>first|assumption|omega)|simp only[LN];omega) only[↓SB,S1,↓gO])
   all_goals simp_all
  ·rw[if_neg k]
   repeat' (first | apply And.intro | intro _ | simp (disch:=first|omega|assumption|(constructor<;>first|assumption|omega)|simp only[LN];omega) only[↓SB,S1,↓gO])
   all_goals simp_all
 refine SUB.v1 (bb (x9 (lU m).1)) ?_ ?_
 ·unfold x9
  repeat' (first | apply And.intro | intro _ | simp (disch:=first|omega|assumption|(constructor<;>first|assumption|omega)|simp only[LN];omega) only[↓SB,S1,↓gO])
  all_goals simp_all
 unfold rb
 cases e1:(lU m).2<;>cases e2:sK m<;>cases e3:x9 (lU m).1
 all_goals simp (disch:=first|omega|assumption|(constructor<;>first|assumption|omega)|simp only[LN];omega) only[↓SB,S1,↓gO,e1,e2,e3]
 all_goals simp
 refine ⟨fun h h2=>by rw[h2] at h;simp at h,fun h=>⟨fun h2 _ h3=>by rw[h3] at h2;simp at h2,fun h2=>⟨h,h2⟩⟩⟩
end Go.Xt
end
section
set_option linter.unusedSimpArgs false
set_option linter.unusedVariables false
set_option maxRecDepth 100000
namespace Go.Xt
end Go.Xt
end
section
set_option linter.unusedSimpArgs false
set_option linter.unusedVariables false
set_option maxRecDepth 100000
namespace Go.Xt
theorem FV{x:Msg}(h:rb x=true)(hk:x.kind=11):qw x=true∧rng x.count 1 40=true∧oa x.path=true∧oa x.todo=true∧(x.path++x.todo).Nodup∧rng x.topic 0 3=true:=by
 simp only[rb,Bool.and_eq_true] at h
 obtain ⟨⟨⟨⟨k1,k2⟩,_⟩,_⟩,_⟩:=h
 simp only[sK,Bool.and_eq_true] at k2
 have k3:=k2.2
 rw[if_neg (by omega),Bool.and_eq_true] at k3
 unfold lU at k1
 rw[if_neg (by omega),if_neg (by omega),if_neg (by omega),if_neg (by omega),if_neg (by omega),if_neg (by omega),if_neg (by omega),if_neg (by omega),if_pos hk] at k1
 simp only[Bool.and_eq_true,decide_eq_true_eq] at k1
 obtain ⟨⟨⟨⟨a,b⟩,d⟩,e⟩,f⟩:=k1
 exact ⟨a,b,d,e,f,k3.2⟩
structure MV (c:Config) (x:Msg):Prop where
 ok:rb x=true
 k:x.kind=11
 t:rng x.topic 0 (c.topics-1)=true
 n:rng x.node 0 (c.nodes-1)=true
 p:(x.path.all fun n=>rng n 0 (c.nodes-1))=true
 d:(x.todo.all fun n=>rng n 0 (c.nodes-1))=true
theorem MV.v{c:Config}{x:Msg}(h:MV c x):VOk c x:=by
 obtain ⟨a,b,_⟩:=FV h.ok h.k
 simp only[qw,Bool.and_eq_true] at a
 exact ⟨h.t,h.n,a.1.1.2,b,a.1.2⟩
end Go.Xt
end
section
set_option linter.unusedSimpArgs false
set_option linter.unusedVariables false
set_option maxRecDepth 100000
namespace Go.Xt
set_option linter.defProp false
theorem vI{t:Int}: ∀ {l:List Kid} {a:Int},dC t a l=true→ ∀k∈l,0≤k.age∧k.age≤6
 | [],_,_=>by simp
 | x::r,a,h=>by
  simp only[dC,Bool.and_eq_true] at h
  intro k hk
  rcases List.mem_cons.1 hk with rfl | h2
  ·exact cO h.1.2
  ·exact vI h.2 k h2
theorem rg{x:Kid}{r:List Kid}:fQ (x::r)=(if x.age+1≤6 then [{ x with age:=x.age+1 }] else [])++fQ r:=by
 unfold fQ;rw[List.map_cons,List.filter_cons];by_cases h:x.age+1≤6<;>simp[h]
theorem yf(t:Int)(self:Int)(limit:Int)(l:List Kid)(hp:jB t self limit l=true)(hg:ay (cj (t,self,limit,l)).2.1):WW ρ 4 lw cj (t,self,limit,l):=by
 simp only[cj,RR] at hg ⊢
 unfold lw
 simp only[ay,fG,bK] at hg
 have hk:dC t self l=true∧l.length≤4:=by
  have:=hp
  simp only[jB,Bool.and_eq_true,decide_eq_true_eq] at this
  have h2:=cO this.1.1.2
  exact ⟨this.2,by omega⟩
 have ha:=vI hk.1
 generalize hE:fQ l=q
 simp (disch:=first|omega|assumption|(constructor<;>first|assumption|omega)|simp only[LN];omega) only[↓SB,S1,↓iq,hp]
 refine aO.rule (α:=Nat×List Kid) (fun p=>[I p.1,L p.2]) (fun p=>p.1≤l.length∧p.2.length≤p.1∧p.2++fQ (l.drop p.1)=q) (fun p=>l.length-p.1) (0,[]) rfl ⟨by simp,by simp,by simpa using hE⟩ (fun _=>rfl) ?_
 rintro ⟨i,a⟩ ⟨hi,h2,hs⟩
 simp only at hi h2 hs
 simp only[app]
 simp (disch:=first|omega|assumption|(constructor<;>first|assumption|omega)|simp only[LN];omega) only[↓SB,S1,↓iq]
 refine ⟨fun h4=>?_,fun h4=>?_⟩
 ·obtain ⟨x,hx⟩:=aL h4
  rw[aT hx,rg] at hs
  have hb:=ha x (List.mem_of_getElem? hx)
  simp (disch:=first|omega|assumption|(constructor<;>first|assumption|omega)|simp only[LN];omega) only[↓SB,S1,↓iq,aB hx]
  refine ⟨fun h5=>⟨(i+1,a++[{ x with age:=x.age+1 }]),rfl,⟨by simp;omega,by simp;omega,?_⟩,by simp;omega⟩,fun h5=>⟨(i+1,a),rfl,⟨by simp;omega,by simp;omega,?_⟩,by simp;omega⟩⟩
  ·rw[if_pos h5] at hs;simpa using hs
  ·rw[if_neg h5] at hs;simpa using hs
 ·rw[aQ h4] at hs
  simp[fQ] at hs;simp[hs]
def H0(p:Peer):Peer:={ p with age:=min (p.age+1) 1000 }
theorem AM{l:List Peer}{i:Nat}{x:Peer}(hx:l[i]? =some x):((ba (l.take i))++l.drop i).set i (H0 x)=ba (l.take (i+1))++l.drop (i+1):=by
 rw[aT hx,nr hx]
 have hl:(ba (l.take i)).length=i:=by have:=(List.getElem?_eq_some_iff.1 hx).1;simp[ba];omega
 rw[List.set_append_right _ _ (by omega),hl];simp[ba,H0]
theorem Cp{l:List Peer}{i:Nat}{x:Peer}(hx:l[i]? =some x):((ba (l.take i))++l.drop i)[i]? =some x:=by
 have hl:(ba (l.take i)).length=i:=by have:=(List.getElem?_eq_some_iff.1 hx).1;simp[ba];omega
 rw[List.getElem?_append_right (by omega),hl,aT hx];simp
theorem Dc{l:List Peer}{x:Peer}(h:bf l=true)(hx:x∈l):0≤x.inc∧x.inc≤1073741824∧0≤x.age∧x.age≤1000:=by
 simp only[bf,Bool.and_eq_true,List.all_eq_true] at h
 have:=h.2 x hx
 simp only[oD,Bool.and_eq_true] at this
 have a:=cO this.1;have b:=cO this.2;omega
def lL:=And.intro @cm (@io)
theorem yg(l:List Peer)(hp:bf l=true)(hg:ay (ck l).2.1):WW ρ 1 lx ck l:=by
 simp only[ck,RR] at hg ⊢
 unfold lx
 have hb:=kv hp
 simp (disch:=first|omega|assumption|(constructor<;>first|assumption|omega)|simp only[LN];omega) only[↓SB,S1,↓lL,hp]
 refine aO.rule (α:=Nat) (fun i=>[I i,L (ba (l.take i)++l.drop i)]) (fun i=>i≤l.length) (fun i=>l.length-i) 0 rfl (by omega) (fun _=>rfl) ?_
 intro i hl
 have hlen:(ba (l.take i)++l.drop i).length=l.length:=by simp[ba];omega
 simp only[app]
 simp (disch:=first|omega|assumption|(constructor<;>first|assumption|omega)|simp only[LN];omega) only[↓SB,S1,↓lL]
 refine ⟨fun h4=>?_,fun h4=>?_⟩
 ·obtain ⟨x,hx⟩:=aL h4
  have h5:=Dc hp (List.mem_of_getElem? hx)
  have h6:=Cp hx
  simp (disch:=first|omega|assumption|(constructor<;>first|assumption|omega)|simp only[LN];omega) only[↓SB,S1,↓lL,aB h6,↓bt h6 (j:=1) (v:=I (min (x.age+1) 1000)) (y:=H0 x) rfl]
  exact ⟨i+1,by simp[AM hx],by omega,by omega⟩
 ·rw[List.take_of_length_le (by omega),List.drop_eq_nil_of_le (by omega)];simp
theorem yh(n:Int)(top:Int)(hp:isN n=true∧0≤top∧top≤1073741824):WW ρ 2 ly eg (n,top):=by
 simp only[eg,RR]
 unfold ly
 obtain ⟨h1,h2,h3⟩:=hp
 have hn:=iv.1 h1
 have e1: ¬top<0:=by omega
 have e2: ¬1073741824<top:=by omega
 have hm:=Int.emod_nonneg top (show (16:Int)≠0 by omega)
 have hm2:=Int.emod_lt_of_pos top (show (0:Int)<16 by omega)
 refine SUB.v1 (bb false) ?_ ?_
 ·simp (disch:=first|omega|assumption|(constructor<;>first|assumption|omega)|simp only[LN];omega) only[↓SB,S1,↓cg,h1,e1,e2]
 generalize hE:pN n top=q
 unfold pN Ew at hE
 simp (disch:=first|omega|assumption|(constructor<;>first|assumption|omega)|simp only[LN];omega) only[↓SB,S1,↓cg]
 refine ⟨fun h=>⟨fun h4=>?_,fun h4=>?_⟩,fun h=>⟨fun h4=>?_,fun h4=>?_⟩⟩
 all_goals simp only[h,h4,if_true,if_false] at hE
 all_goals subst hE
 all_goals simp
 all_goals omega
theorem yi(e:Int)(n:Int):WW ρ 2 lz eh (e,n):=by
 simp only[eh,RR]
 unfold lz;rfl
theorem yj(s:Stream):WW ρ 5 lA ei s:=by
 simp only[ei,RR]
 unfold lA;simp (disch:=first|omega|assumption|(constructor<;>first|assumption|omega)|simp only[LN];omega) only[↓SB,S1]
theorem rD(x:Topic)(hp:fP x=false):WW ρ 16 gW ce x:=by
 simp only[ce,RR]
 unfold gW;simp (disch:=first|omega|assumption|(constructor<;>first|assumption|omega)|simp only[LN];omega) only[↓SB,S1,↓iu];rfl
theorem tr{c:Config}{t self:Int}{x:Topic}(h:sL c t self x=0):bM c=true∧eE c t self=true∧aC c t self x=true:=by
 unfold sL at h
 split at h
 ·split at h
  ·rename_i h1 h2;rw[Bool.and_eq_true] at h2;exact ⟨h1,h2.1,h2.2⟩
  ·omega
 ·omega
theorem yk{c:Config}{t self:Int}{x:Topic}(h1:bM c=true)(h2:eE c t self=true)(h3:aC c t self x=true):sL c t self x=0:=by
 unfold sL;rw[if_pos h1,if_pos (by simp[h2,h3])]
def yl:=And.intro @gE (@rq)
theorem ym(c:Config)(t:Int)(self:Int)(x:Topic)(hp:sL c t self x=0)(hg:ay (dt (c,t,self,x)).2.1):WW ρ 25 lB dt (c,t,self,x):=by
 simp only[dt,RR] at hg ⊢
 unfold lB
 have hW:(if bM c=true then (if (eE c t self&&aC c t self x)=true then (0:Int) else 1) else 13)=0:=hp
 obtain ⟨h1,h2,h3⟩:=tr hp
 have hl:=fq h1 h3
 simp (disch:=first|omega|assumption|(constructor<;>first|assumption|omega)|simp only[LN];omega) only[↓SB,S1,↓yl,hW]
def AN:=And.intro @iu (@gE)
theorem AO(c:Config)(t:Int)(self:Int)(x:Topic)(hp:sL c t self x=0)(hg:ay (dP (c,t,self,x)).2.1):WW ρ 25 ni dP (c,t,self,x):=by
 simp only[dP,RR] at hg ⊢
 unfold ni
 have hW:(if bM c=true then (if (eE c t self&&aC c t self x)=true then (0:Int) else 1) else 13)=0:=hp
 obtain ⟨h1,h2,h3⟩:=tr hp
 have hl:=fq h1 h3
 simp (disch:=first|omega|assumption|(constructor<;>first|assumption|omega)|simp only[LN];omega) only[↓SB,S1,↓AN,hW]
theorem yn{c:Config}{t self:Int}{x:Topic}(h:aC c t self x=true):0≤x.top∧x.top≤1073741824∧0≤x.age∧x.age≤1000:=by
 simp only[aC,Bool.and_eq_true] at h
 have a:=cO h.1.1.1.1.1.1.1.1.1;have b:=cO h.1.1.1.1.1.1.1.1.2;omega
def jY:=And.intro @iu (And.intro @gE (And.intro @xu (@xv)))
theorem uy(c:Config)(t:Int)(self:Int)(x:Topic)(hp:sL c t self x=0)(hg:ay (cD (c,t,self,x)).2.1):WW ρ 25 jP cD (c,t,self,x):=by
 simp only[cD,RR] at hg ⊢
 unfold jP
 have hW:(if bM c=true then (if (eE c t self&&aC c t self x)=true then (0:Int) else 1) else 13)=0:=hp
 obtain ⟨h1,h2,h3⟩:=tr hp
 have hl:=fq h1 h3
 have hb:=yn h3
 have hpl:=Ap h1 h2
 have hne:isN self=true∧0≤x.top∧x.top≤1073741824:=⟨hpl.2.1,hb.1,hb.2.1⟩
 generalize hE:im self x=q
 unfold im at hE
 simp (disch:=first|omega|assumption|(constructor<;>first|assumption|omega)|simp only[LN];omega) only[↓SB,S1,↓jY,hW]
 refine ⟨fun a=>⟨fun b=>?_,fun b=>?_⟩,fun a=>?_⟩
 ·rw[if_pos ⟨a,b.symm⟩] at hE;subst hE;rfl
 all_goals
  rw[if_neg (by intro h;first | exact h.1 a | exact b h.2.symm)] at hE
  by_cases hz:pN self x.top=0
  ·rw[if_pos hz] at hE;subst hE;simp (disch:=first|omega|assumption|(constructor<;>first|assumption|omega)|simp only[LN];omega) only[↓SB,S1,↓jY,hz];simp[bZ,L]
  ·rw[if_neg hz] at hE;subst hE;simp (disch:=first|omega|assumption|(constructor<;>first|assumption|omega)|simp only[LN];omega) only[↓SB,S1,↓jY,hz];first | done | rfl | simp[gN]
theorem rE(x:Topic):WW ρ 16 gX cf x:=by
 simp only[cf,RR]
 unfold gX dJ
 simp (disch:=first|omega|assumption|(constructor<;>first|assumption|omega)|simp only[LN];omega) only[↓SB,S1]
 cases x.sub<;>simp
theorem Cq(m:Msg)(hp:m.path.length≤30∧m.todo.length≤30):WW ρ 16 oM gt m:=by
 simp only[gt,RR]
 unfold oM;simp (disch:=first|omega|assumption|(constructor<;>first|assumption|omega)|simp only[LN];omega) only[↓SB,S1,↓fW]
end Go.Xt
end
section
set_option linter.unusedSimpArgs false
set_option linter.unusedVariables false
set_option maxRecDepth 100000
namespace Go.Xt
set_option linter.defProp false
theorem EZ{n:Node}{o:Int}(h:zM n o=true): ∃(k:Nat) (p:Peer),o=k∧n.peers[k]? =some p∧p.inc≠0:=by
 simp only[zM,Bool.and_eq_true,decide_eq_true_eq] at h
 have hb:=cO h.1
 obtain ⟨k,rfl⟩:=Int.eq_ofNat_of_zero_le hb.1
 obtain ⟨p,hp⟩:=aL (xs:=n.peers) (i:=k) (by omega)
 have h2:=h.2
 simp[List.getD_eq_getElem?_getD,hp] at h2
 exact ⟨k,p,rfl,hp,h2⟩
theorem F0{self:Int}{n:Node}{x:Msg}(h:x.kind=1):vt self n x=⟨x.kind,self,n.inc,x.to,0,x.topic,x.epoch,x.seq,x.last,x.value,x.node,x.inc,x.count,x.hops,x.path,x.todo⟩:=by
 simp[vt,h]
theorem F1{self:Int}{n:Node}{x:Msg}{k:Nat}{p:Peer}(h: ¬x.kind=1)(hk:x.to=k)(hp:n.peers[k]? =some p):vt self n x=⟨x.kind,self,n.inc,x.to,p.inc,x.topic,x.epoch,x.seq,x.last,x.value,x.node,x.inc,x.count,x.hops,x.path,x.todo⟩:=by
 simp[vt,h,hk,hp,List.getD_eq_getElem?_getD]
def bx:=And.intro @rd (And.intro @sZ (@rf))
theorem AP{self:Int}{n:Node}{l:List Msg}(hp:l.length≤1000∧n.peers.length≤12∧ ∀m∈l,m.path.length≤30∧m.todo.length≤30){Q:List PV→Prop}(hQ:Q [L (sM self n l),bb (iR self n l).isSome]) :
  fa ρ (I self) (bb n.up) (I n.inc) (L n.peers) (L n.topics) (L n.calls) (I n.pubs) (I n.asks) (L n.marks) (L n.taken) (L l) Q:=by
 unfold fa
 unfold sM at hQ
 obtain ⟨hl,hpl,hm⟩:=hp
 generalize hE:iR self n l=q at hQ
 simp (disch:=first|omega|assumption|(constructor<;>first|assumption|omega)|simp only[LN];omega) only[↓SB,S1,↓bx]
 refine aO.rule (α:=Nat×List Msg) (fun p=>[I p.1,L p.2]) (fun p=>p.1≤l.length∧p.2.length≤p.1∧(iR self n (l.drop p.1)).map (p.2++ ·)=q) (fun p=>l.length-p.1) (0,[]) rfl ⟨by simp,by simp,by simpa using hE⟩ (fun _=>rfl) ?_
 rintro ⟨i,a⟩ ⟨hi,ha,hs⟩
 simp only at hi ha hs
 simp only[app]
 simp (disch:=first|omega|assumption|(constructor<;>first|assumption|omega)|simp only[LN];omega) only[↓SB,S1,↓bx]
 refine ⟨fun h4=>?_,fun h4=>?_⟩
 ·obtain ⟨x,hx⟩:=aL h4
  have hxm:=hm x (List.mem_of_getElem? hx)
  rw[aT hx,iR] at hs
  simp (disch:=first|omega|assumption|(constructor<;>first|assumption|omega)|simp only[LN];omega) only[↓SB,S1,↓bx,aB hx]
  refine SUB.v1 (bb (!(decide (x.kind=1)||zM n x.to))) ?_ ?_
  ·repeat' (first | apply And.intro | intro _ | simp (disch:=first|omega|assumption|(constructor<;>first|assumption|omega)|simp only[LN];omega) only[↓SB,S1,↓bx])
   all_goals simp_all
  cases hk:(decide (x.kind=1)||zM n x.to)
  ·rw[if_neg (by rw[hk];simp)] at hs
   simp (disch:=first|omega|assumption|(constructor<;>first|assumption|omega)|simp only[LN];omega) only[↓SB,S1,↓bx]
   exact ⟨(i+1,a),rfl,⟨by simp;omega,by simp;omega,hs⟩,by simp;omega⟩
  rw[if_pos hk] at hs
  simp (disch:=first|omega|assumption|(constructor<;>first|assumption|omega)|simp only[LN];omega) only[↓SB,S1,↓bx]
  refine ⟨fun h5=>?_,fun h5=>?_⟩
  ·have h6:zM n x.to=true:=by simpa[h5] using hk
   obtain ⟨k,p,e1,e2,e3⟩:=EZ h6
   have e4:=(List.getElem?_eq_some_iff.1 e2).1
   rw[F1 h5 e1 e2] at hs
   rw[e1] at hs ⊢
   simp (disch:=first|omega|assumption|(constructor<;>first|assumption|omega)|simp only[LN];omega) only[↓SB,S1,↓bx,aB e2]
   by_cases h7:rb ⟨x.kind,self,n.inc,(k:Int),p.inc,x.topic,x.epoch,x.seq,x.last,x.value,x.node,x.inc,x.count,x.hops,x.path,x.todo⟩=true
   ·rw[if_pos h7] at hs
    simp (disch:=first|omega|assumption|(constructor<;>first|assumption|omega)|simp only[LN];omega) only[↓SB,S1,↓bx,h7]
    exact ⟨(i+1,a++[⟨x.kind,self,n.inc,(k:Int),p.inc,x.topic,x.epoch,x.seq,x.last,x.value,x.node,x.inc,x.count,x.hops,x.path,x.todo⟩]),rfl,⟨by simp;omega,by simp;omega,by simpa[Function.comp_def] using hs⟩,by simp;omega⟩
   ·rw[if_neg h7] at hs
    simp (disch:=first|omega|assumption|(constructor<;>first|assumption|omega)|simp only[LN];omega) only[↓SB,S1,↓bx,h7]
    subst hs;simpa[L] using hQ
  ·rw[F0 h5] at hs
   by_cases h7:rb ⟨x.kind,self,n.inc,x.to,0,x.topic,x.epoch,x.seq,x.last,x.value,x.node,x.inc,x.count,x.hops,x.path,x.todo⟩=true
   ·rw[if_pos h7] at hs
    simp (disch:=first|omega|assumption|(constructor<;>first|assumption|omega)|simp only[LN];omega) only[↓SB,S1,↓bx,h7]
    exact ⟨(i+1,a++[⟨x.kind,self,n.inc,x.to,0,x.topic,x.epoch,x.seq,x.last,x.value,x.node,x.inc,x.count,x.hops,x.path,x.todo⟩]),rfl,⟨by simp;omega,by simp;omega,by simpa[Function.comp_def] using hs⟩,by simp;omega⟩
   ·rw[if_neg h7] at hs
    simp (disch:=first|omega|assumption|(constructor<;>first|assumption|omega)|simp only[LN];omega) only[↓SB,S1,↓bx,h7]
    subst hs;simpa[L] using hQ
 ·rw[aQ h4] at hs
  subst hs;simpa[iR] using hQ
theorem AQ(self:Int)(n:Node)(l:List Msg)(hp:l.length≤1000∧n.peers.length≤12∧ ∀m∈l,m.path.length≤30∧m.todo.length≤30)(hg:ay (dQ (self,n,l)).2.1):WW ρ 11 fa dQ (self,n,l):=by
 simp only[dQ,RR] at hg ⊢
 exact AP hp rfl
def pY:=And.intro @pR (@zZ)
theorem yo(c:Config)(self:Int)(n:Node)(l:List Msg)(hp:cV n=false∧l.length≤1000∧ ∀m∈l,m.path.length≤30∧m.todo.length≤30)(hg:ay (ej (c,self,n,l)).2.1):WW ρ 18 lC ej (c,self,n,l):=by
 simp only[ej,RR] at hg ⊢
 unfold lC
 obtain ⟨h1,h2,h3⟩:=hp
 have hb:=tf h1
 have hq:l.length≤1000∧n.peers.length≤12∧ ∀m∈l,m.path.length≤30∧m.todo.length≤30:=⟨h2,hb.1,h3⟩
 unfold qx sM
 by_cases h:il c self n=0
 ·rw[if_pos h]
  simp (disch:=first|omega|assumption|(constructor<;>first|assumption|omega)|simp only[LN];omega) only[↓SB,S1,↓pY,h,Node.eta,sM]
  cases hm:iR self n l<;>simp[L]
 ·rw[if_neg h]
  simp (disch:=first|omega|assumption|(constructor<;>first|assumption|omega)|simp only[LN];omega) only[↓SB,S1,↓pY,h,Node.eta]
  rfl
end Go.Xt
end
section
set_option linter.unusedSimpArgs false
set_option linter.unusedVariables false
set_option maxRecDepth 100000
namespace Go.Xt
set_option linter.defProp false
theorem bD{xs:List Topic}{x y:Topic}{i:Nat}{k:PV→Prop}(h:xs[i]? =some x):(OP (.set 0) [L xs,I i,bb y.made] fun w0=>OP (.set 1) [w0,I i,bb y.sub] fun w1=>OP (.set 2) [w1,I i,I y.top] fun w2=>OP (.set 3) [w2,I i,I y.root] fun w3=>OP (.set 4) [w3,I i,I y.parent] fun w4=>OP (.set 5) [w4,I i,I y.asked] fun w5=>OP (.set 6) [w5,I i,I y.other] fun w6=>OP (.set 7) [w6,I i,I y.age] fun w7=>OP (.set 8) [w7,I i,L y.path] fun w8=>OP (.set 9) [w8,I i,L y.kids] fun w9=>OP (.set 10) [w9,I i,I y.stream.epoch] fun w10=>OP (.set 11) [w10,I i,I y.stream.want] fun w11=>OP (.set 12) [w11,I i,I y.stream.known] fun w12=>OP (.set 13) [w12,I i,L y.stream.kept] fun w13=>OP (.set 14) [w13,I i,L y.stream.ahead] fun w14=>OP (.set 15) [w14,I i,L y.queue] fun w15=>k w15)=k (L (xs.set i y)):=by
 have hl:=(List.getElem?_eq_some_iff.1 h).1
 have hg: ∀z:Topic,(xs.set i z)[i]? =some z:=fun z=>by simp[hl]
 obtain ⟨a0,a1,a2,a3,a4,a5,a6,a7,a8,a9,⟨b0,b1,b2,b3,b4⟩,a10⟩:=x
 obtain ⟨c0,c1,c2,c3,c4,c5,c6,c7,c8,c9,⟨d0,d1,d2,d3,d4⟩,c10⟩:=y
 dsimp only
 rw[bt h (j:=0) (v:=bb c0) (y:=(⟨c0,a1,a2,a3,a4,a5,a6,a7,a8,a9,⟨b0,b1,b2,b3,b4⟩,a10⟩:Topic)) rfl]
 rw[bt (hg ⟨c0,a1,a2,a3,a4,a5,a6,a7,a8,a9,⟨b0,b1,b2,b3,b4⟩,a10⟩) (j:=1) (v:=bb c1) (y:=(⟨c0,c1,a2,a3,a4,a5,a6,a7,a8,a9,⟨b0,b1,b2,b3,b4⟩,a10⟩:Topic)) rfl,List.set_set]
 rw[bt (hg ⟨c0,c1,a2,a3,a4,a5,a6,a7,a8,a9,⟨b0,b1,b2,b3,b4⟩,a10⟩) (j:=2) (v:=I c2) (y:=(⟨c0,c1,c2,a3,a4,a5,a6,a7,a8,a9,⟨b0,b1,b2,b3,b4⟩,a10⟩:Topic)) rfl,List.set_set]
 rw[bt (hg ⟨c0,c1,c2,a3,a4,a5,a6,a7,a8,a9,⟨b0,b1,b2,b3,b4⟩,a10⟩) (j:=3) (v:=I c3) (y:=(⟨c0,c1,c2,c3,a4,a5,a6,a7,a8,a9,⟨b0,b1,b2,b3,b4⟩,a10⟩:Topic)) rfl,List.set_set]
 rw[bt (hg ⟨c0,c1,c2,c3,a4,a5,a6,a7,a8,a9,⟨b0,b1,b2,b3,b4⟩,a10⟩) (j:=4) (v:=I c4) (y:=(⟨c0,c1,c2,c3,c4,a5,a6,a7,a8,a9,⟨b0,b1,b2,b3,b4⟩,a10⟩:Topic)) rfl,List.set_set]
 rw[bt (hg ⟨c0,c1,c2,c3,c4,a5,a6,a7,a8,a9,⟨b0,b1,b2,b3,b4⟩,a10⟩) (j:=5) (v:=I c5) (y:=(⟨c0,c1,c2,c3,c4,c5,a6,a7,a8,a9,⟨b0,b1,b2,b3,b4⟩,a10⟩:Topic)) rfl,List.set_set]
 rw[bt (hg ⟨c0,c1,c2,c3,c4,c5,a6,a7,a8,a9,⟨b0,b1,b2,b3,b4⟩,a10⟩) (j:=6) (v:=I c6) (y:=(⟨c0,c1,c2,c3,c4,c5,c6,a7,a8,a9,⟨b0,b1,b2,b3,b4⟩,a10⟩:Topic)) rfl,List.set_set]
 rw[bt (hg ⟨c0,c1,c2,c3,c4,c5,c6,a7,a8,a9,⟨b0,b1,b2,b3,b4⟩,a10⟩) (j:=7) (v:=I c7) (y:=(⟨c0,c1,c2,c3,c4,c5,c6,c7,a8,a9,⟨b0,b1,b2,b3,b4⟩,a10⟩:Topic)) rfl,List.set_set]
 rw[bt (hg ⟨c0,c1,c2,c3,c4,c5,c6,c7,a8,a9,⟨b0,b1,b2,b3,b4⟩,a10⟩) (j:=8) (v:=L c8) (y:=(⟨c0,c1,c2,c3,c4,c5,c6,c7,c8,a9,⟨b0,b1,b2,b3,b4⟩,a10⟩:Topic)) rfl,List.set_set]
 rw[bt (hg ⟨c0,c1,c2,c3,c4,c5,c6,c7,c8,a9,⟨b0,b1,b2,b3,b4⟩,a10⟩) (j:=9) (v:=L c9) (y:=(⟨c0,c1,c2,c3,c4,c5,c6,c7,c8,c9,⟨b0,b1,b2,b3,b4⟩,a10⟩:Topic)) rfl,List.set_set]
 rw[bt (hg ⟨c0,c1,c2,c3,c4,c5,c6,c7,c8,c9,⟨b0,b1,b2,b3,b4⟩,a10⟩) (j:=10) (v:=I d0) (y:=(⟨c0,c1,c2,c3,c4,c5,c6,c7,c8,c9,⟨d0,b1,b2,b3,b4⟩,a10⟩:Topic)) rfl,List.set_set]
 rw[bt (hg ⟨c0,c1,c2,c3,c4,c5,c6,c7,c8,c9,⟨d0,b1,b2,b3,b4⟩,a10⟩) (j:=11) (v:=I d1) (y:=(⟨c0,c1,c2,c3,c4,c5,c6,c7,c8,c9,⟨d0,d1,b2,b3,b4⟩,a10⟩:Topic)) rfl,List.set_set]
 rw[bt (hg ⟨c0,c1,c2,c3,c4,c5,c6,c7,c8,c9,⟨d0,d1,b2,b3,b4⟩,a10⟩) (j:=12) (v:=I d2) (y:=(⟨c0,c1,c2,c3,c4,c5,c6,c7,c8,c9,⟨d0,d1,d2,b3,b4⟩,a10⟩:Topic)) rfl,List.set_set]
 rw[bt (hg ⟨c0,c1,c2,c3,c4,c5,c6,c7,c8,c9,⟨d0,d1,d2,b3,b4⟩,a10⟩) (j:=13) (v:=L d3) (y:=(⟨c0,c1,c2,c3,c4,c5,c6,c7,c8,c9,⟨d0,d1,d2,d3,b4⟩,a10⟩:Topic)) rfl,List.set_set]
 rw[bt (hg ⟨c0,c1,c2,c3,c4,c5,c6,c7,c8,c9,⟨d0,d1,d2,d3,b4⟩,a10⟩) (j:=14) (v:=L d4) (y:=(⟨c0,c1,c2,c3,c4,c5,c6,c7,c8,c9,⟨d0,d1,d2,d3,d4⟩,a10⟩:Topic)) rfl,List.set_set]
 rw[bt (hg ⟨c0,c1,c2,c3,c4,c5,c6,c7,c8,c9,⟨d0,d1,d2,d3,d4⟩,a10⟩) (j:=15) (v:=L c10) (y:=(⟨c0,c1,c2,c3,c4,c5,c6,c7,c8,c9,⟨d0,d1,d2,d3,d4⟩,c10⟩:Topic)) rfl,List.set_set]
theorem DT{t a b:Int}(h:eD t a b=true): ∀ {l:List Kid},dC t b l=true→dC t a l=true
 | [],_=>rfl
 | x::r,hk=>by
  simp only[dC,Bool.and_eq_true] at hk ⊢
  exact ⟨⟨⟨oO h hk.1.1.1,hk.1.1.2⟩,hk.1.2⟩,hk.2⟩
theorem tu{t:Int}: ∀ {l:List Kid} {a:Int},dC t a l=true→dC t a (fQ l)=true
 | [],_,_=>rfl
 | x::r,a,h=>by
  have h0:=h
  simp only[dC,Bool.and_eq_true] at h
  have ih:=tu h.2
  have hr:=cO h.1.2
  rw[rg]
  by_cases hx:x.age+1≤6
  ·rw[if_pos hx,List.singleton_append,dC,Bool.and_eq_true,Bool.and_eq_true,Bool.and_eq_true]
   exact ⟨⟨⟨h.1.1.1,h.1.1.2⟩,by simp[rng];omega⟩,ih⟩
  ·rw[if_neg hx,List.nil_append];exact DT h.1.1.1 ih
theorem Cr(l:List Kid):(fQ l).length≤l.length:=by
 unfold fQ;exact Nat.le_trans (List.length_filter_le _ _) (by simp)
structure TOk (c:Config) (t me:Int) (x:Topic):Prop where
 top:rng x.top 0 1073741824=true
 age:rng x.age 0 1000=true
 par:ij t me x.parent=true
 ask:ij t me x.asked=true
 oth:ij t me x.other=true
 root:oE me x=true
 plc:kn x=true
 path:chk t me x.path c.depth=0
 kids:jB t me c.kids x.kids=true
 flow:mS c x.stream x.queue=true
theorem cP{c:Config}{t self:Int}{x:Topic}:aC c t self x=true↔TOk c t self x:=by
 simp only[aC,Bool.and_eq_true,decide_eq_true_eq]
 exact ⟨fun ⟨⟨⟨⟨⟨⟨⟨⟨⟨a,b⟩,d⟩,e⟩,f⟩,g⟩,h⟩,i⟩,j⟩,k⟩=>⟨a,b,d,e,f,g,h,i,j,k⟩,fun ⟨a,b,d,e,f,g,h,i,j,k⟩=>⟨⟨⟨⟨⟨⟨⟨⟨⟨a,b⟩,d⟩,e⟩,f⟩,g⟩,h⟩,i⟩,j⟩,k⟩⟩
theorem Cs{c:Config}{t self:Int}{x:Topic}(h:aC c t self x=true):aC c t self { x with kids:=fQ x.kids }=true:=by
 rw[cP] at h ⊢
 obtain ⟨a,b,d,e,f,g,h,i,j,k⟩:=h
 refine ⟨a,b,d,e,f,g,h,i,?_,k⟩
 simp only[jB,Bool.and_eq_true,decide_eq_true_eq] at j ⊢
 have:=Cr x.kids
 exact ⟨⟨j.1.1,by omega⟩,tu j.2⟩
theorem AR{c:Config}{t self:Int}{x:Topic}(h:aC c t self x=true):aC c t self { x with root:=0 }=true:=by
 rw[cP] at h ⊢
 obtain ⟨a,b,d,e,f,g,h,i,j,k⟩:=h
 exact ⟨a,b,d,e,f,by simp[oE],h,i,j,k⟩
theorem tv{c:Config}{t self a:Int}{x:Topic}(h:aC c t self x=true)(h0:0≤a)(h1:a≤1000):aC c t self { x with age:=a }=true:=by
 rw[cP] at h ⊢
 obtain ⟨a,b,d,e,f,g,h,i,j,k⟩:=h
 exact ⟨a,by simp[rng];omega,d,e,f,g,h,i,j,k⟩
theorem Ct{c:Config}{t self:Int}{x:Topic}(h:aC c t self x=true):aC c t self (gN x)=true:=by
 rw[cP] at h ⊢
 obtain ⟨a,b,d,e,f,g,h,i,j,k⟩:=h
 refine ⟨a,by simp[rng,gN],by simp[ij,gN],by simp[ij,gN],by simp[ij,gN],?_,by simp[kn,gN],?_,j,k⟩
 ·simp only[oE,Bool.or_eq_true,Bool.and_eq_true,decide_eq_true_eq] at g ⊢
  rcases g with g | g
  ·exact .inl g
  ·exact .inr ⟨⟨g.1.1,rfl⟩,g.2⟩
 ·show chk t self [] c.depth=0
  unfold chk at i ⊢
  split at i
  ·rename_i h1
   simp only[Bool.and_eq_true] at h1
   rw[if_pos (by simp[h1.1])]
   have hd:=h1.1.1.2
   simp only[decide_eq_true_eq] at hd
   rw[if_neg (by simp;omega)];simp[pJ]
  ·omega
theorem AU{l:List Peer}(h:bf l=true):bf (ba l)=true:=by
 have hb:=fun x hx=>Dc (x:=x) h hx
 simp only[bf,Bool.and_eq_true,decide_eq_true_eq,List.all_eq_true] at h ⊢
 refine ⟨⟨by simpa[ba] using h.1.1,by simpa[ba] using h.1.2⟩,?_⟩
 intro p hp
 simp only[ba,List.mem_map] at hp
 obtain ⟨q,hq,rfl⟩:=hp
 have:=hb q hq
 simp[oD,rng];omega
theorem Cu(l:List Peer):(ba l).length=l.length:=by simp[ba]
theorem tz{self:Int}{live:List Int}: ∀(l r:List Topic) (t:Int),ct self live t (l++r)=ct self live t l++ct self live (t+l.length) r
 | [],r,t=>by simp[ct]
 | x::l,r,t=>by
  rw[List.cons_append,ct,ct,tz l r (t+1),List.cons_append,List.length_cons,show t+1+(l.length:Int)=t+((l.length+1:Nat):Int) by omega]
theorem tA{self:Int}{live:List Int}: ∀(l r:List Topic) (t:Int),bO self live t (l++r)=bO self live t l++bO self live (t+l.length) r
 | [],r,t=>by simp[bO]
 | x::l,r,t=>by
  rw[List.cons_append,bO,bO,tA l r (t+1),List.append_assoc,List.length_cons,show t+1+(l.length:Int)=t+((l.length+1:Nat):Int) by omega]
theorem oT{self:Int}{live:List Int}: ∀(l:List Topic) (t:Int),(ct self live t l).length=l.length
 | [],_=>rfl
 | x::l,t=>by rw[ct,List.length_cons,List.length_cons,oT l]
theorem DU{self:Int}{live:List Int}{T:List Topic}{i:Nat}{x:Topic}(hx:T[i]? =some x) :
  (ct self live 0 (T.take i)++T.drop i).set i (rc self i live x).1=ct self live 0 (T.take (i+1))++T.drop (i+1) ∧
  bO self live 0 (T.take (i+1))=bO self live 0 (T.take i)++(rc self i live x).2 ∧
  (ct self live 0 (T.take i)++T.drop i)[i]? =some x:=by
 have hi:=(List.getElem?_eq_some_iff.1 hx).1
 have hl:(T.take i).length=i:=by simp;omega
 have hl2:(ct self live 0 (T.take i)).length=i:=by rw[oT,hl]
 refine ⟨?_,?_,?_⟩
 ·rw[nr hx,tz,hl,List.set_append_right _ _ (by omega),hl2,aT hx];simp[ct]
 ·rw[nr hx,tA,hl];simp[bO]
 ·rw[List.getElem?_append_right (by omega),hl2,aT hx];simp
theorem Cv{l:List Call}{i:Nat}{x:Call}(hx:l[i]? =some x):iS (l.take (i+1))=iS (l.take i)++if x.age+1≤20 then [{ x with age:=x.age+1 }] else []:=by
 rw[nr hx];unfold iS;rw[List.map_append,List.filter_append]
 by_cases h:x.age+1≤20<;>simp[h]
theorem Cw(l:List Call):(iS l).length≤l.length:=by
 unfold iS;exact Nat.le_trans (List.length_filter_le _ _) (by simp)
theorem AV{c:Config}{a:Int}: ∀ {l:List Call} {p:Int},dX c a p l=true→ ∀x∈l,p<x.count∧x.count≤a∧0≤x.topic∧x.topic<c.topics∧0≤x.age∧x.age≤20
 | [],_,_,_,h=>by simp at h
 | y::r,p,h,x,hx=>by
  simp only[dX,Bool.and_eq_true,decide_eq_true_eq] at h
  have h1:=cO h.1.1.2;have h2:=cO h.1.2
  rcases List.mem_cons.1 hx with rfl | hx
  ·omega
  ·have:=AV h.2 x hx;omega
theorem Cx{self:Int}{i:Nat}:jq self ((i+1:Nat):Int)=jq self i++if (i:Int)=self then [] else [{ gm with kind:=1,to:=(i:Int) }]:=by
 unfold jq
 rw[Int.toNat_natCast,Int.toNat_natCast,List.range_succ,List.filter_append,List.map_append]
 by_cases h:(i:Int)=self<;>simp[h]
theorem DV(self k:Int):(jq self k).length≤k.toNat:=by
 unfold jq;rw[List.length_map];exact Nat.le_trans (List.length_filter_le _ _) (by simp)
theorem Cy{self k:Int}{m:Msg}(h:m∈jq self k):m.path=[]∧m.todo=[]:=by
 simp only[jq,List.mem_map] at h
 obtain ⟨i,_,rfl⟩:=h;exact ⟨rfl,rfl⟩
theorem Cz{self t:Int}{live:List Int}{x:Topic}:(∀m∈(rc self t live x).2,m.path=[]∧m.todo=[])∧(rc self t live x).2.length≤2:=by
 unfold rc kT D6
 dsimp only
 repeat' split
 all_goals simp[gm]
theorem nw{self:Int}{live:List Int}: ∀(l:List Topic) (t:Int),(∀m∈bO self live t l,m.path=[]∧m.todo=[])∧(bO self live t l).length≤2*l.length
 | [],t=>by simp[bO]
 | x::r,t=>by
  obtain ⟨a,b⟩:=nw (self:=self) (live:=live) r (t+1)
  obtain ⟨d,e⟩:=Cz (self:=self) (t:=t) (live:=live) (x:=x)
  refine ⟨fun m hm=>?_,by simp only[bO,List.length_append,List.length_cons];omega⟩
  rw[bO,List.mem_append] at hm
  exact hm.elim (d m) (a m)
theorem AW{c:Config}{t self:Int}{x:Topic}(h:aC c t self x=true):aC c t self (pO x)=true:=by
 have hb:=yn h
 unfold pO
 split
 ·exact h
 ·split
  ·exact Ct h
  ·exact tv h (by omega) (by omega)
theorem AX{c:Config}{t self:Int}{live:List Int}{x:Topic}(h:aC c t self x=true):aC c t self (eu live x)=true:=by
 unfold eu
 split
 ·rw[cP] at h ⊢
  obtain ⟨a,b,d,e,f,g,h,i,j,k⟩:=h
  exact ⟨a,b,d,e,by simp[ij],g,h,i,j,k⟩
 ·exact h
theorem F2(x:Topic)(live:List Int):x.made=(eu live x).made∧x.sub=(eu live x).sub∧x.top=(eu live x).top∧x.root=(eu live x).root∧x.parent=(eu live x).parent∧x.asked=(eu live x).asked∧x.age=(eu live x).age∧x.path=(eu live x).path∧x.kids=(eu live x).kids∧x.stream=(eu live x).stream∧x.queue=(eu live x).queue:=by
 unfold eu;split<;>simp
theorem F3{x:Topic}{live:List Int}(h:(decide (x.other≠0)&& !live.contains (x.other-1))=true):(eu live x).other=0:=by
 simp only[Bool.and_eq_true,decide_eq_true_eq,Bool.not_eq_true'] at h
 unfold eu;rw[if_pos h]
theorem FW{x:Topic}{live:List Int}(h:(decide (x.other≠0)&& !live.contains (x.other-1))=false):(eu live x).other=x.other:=by
 unfold eu;rw[if_neg (by rintro ⟨h1,h2⟩;simp[h1] at h;rw[List.contains_iff_mem.2 h] at h2;cases h2)]
def ny:=And.intro @iu (And.intro @cm (And.intro @fT (And.intro @fU (@eW))))
theorem AY(n:Node)(hp:cV n=false)(hg:ay (dS n).2.1):WW ρ 9 nk dS n:=by
 simp only[dS,RR] at hg ⊢
 unfold nk
 simp only[ay,fG,bK] at hg
 have hb:=tf hp
 simp (disch:=first|omega|assumption|(constructor<;>first|assumption|omega)|simp only[LN];omega) only[↓SB,S1,↓ny]
 refine aO.rule (α:=Nat) (fun i=>[I i,L (n.topics.take i)]) (fun i=>i≤n.topics.length) (fun i=>n.topics.length-i) 0 rfl (by omega) (fun _=>rfl) ?_
 intro i hl
 simp only[app]
 simp (disch:=first|omega|assumption|(constructor<;>first|assumption|omega)|simp only[LN];omega) only[↓SB,S1,↓ny]
 refine ⟨fun hcc=>?_,fun hcc=>?_⟩
 ·obtain ⟨y,hy⟩:=aL hcc
  have hx9:fP y=false:=by simpa using List.any_eq_false.1 hb.2.2.2.2.2 y (List.mem_of_getElem? hy)
  have hlt:(n.topics.take i).length=i:=by simp;omega
  simp (disch:=first|omega|assumption|(constructor<;>first|assumption|omega)|simp only[LN];omega) only[↓SB,S1,↓ny,aB hy]
  exact ⟨i+1,by simp[nr hy],by omega,by omega⟩
 rw[List.take_of_length_le (by omega)]
end Go.Xt
end
section
set_option linter.unusedSimpArgs false
set_option linter.unusedVariables false
set_option maxRecDepth 100000
namespace Go.Xt
set_option linter.defProp false
theorem qF{c:Config}{self:Int}: ∀ {l:List Call} {T:List Topic},(∀x∈l,0≤x.topic∧x.topic<T.length)→aU c self 0 T=true→aU c self 0 (gS c l T)=true∧(gS c l T).length=T.length
 | [],T,_,h=>⟨h,rfl⟩
 | x::r,T,hb,h=>by
  have h0:=hb x (by simp)
  rw[gS]
  split
  ·exact qF (fun y hy=>hb y (by simp[hy])) h
  ·obtain ⟨a,b⟩:=Db (c:=c) (self:=self) (x:=⟨4,0,0,0,0,x.count⟩) h h0.1 h0.2
   obtain ⟨d,e⟩:=qF (c:=c) (self:=self) (l:=r) (fun y hy=>by rw[b];exact hb y (by simp[hy])) a
   exact ⟨d,by rw[e,b]⟩
theorem FX{t self:Int}{l:List Peer}(h:bf l=true)(h0:0≤self)(h1:self<l.length): -1≤cK t (gM l self) self∧cK t (gM l self) self<8:=by
 have hlo:=AA t (gM l self) self
 refine ⟨hlo,?_⟩
 have hz:=(vC (tp h h0 h1)).2.1.2.2
 by_cases hn:0≤cK t (gM l self) self
 ·have:=Az l 0 (cK t (gM l self) self) (EW hz hn)
  have hp:=kv h;omega
 ·omega
theorem AZ{self:Int}: ∀(l:List Peer) (i:Int),(eR self i l).length≤l.length
 | [],_=>by simp[eR]
 | p::r,i=>by
  have:=AZ (self:=self) r (i+1)
  rw[eR,List.length_append,List.length_cons];split<;>simp<;>omega
theorem vJ{t:Int}{x:Topic}(h:x.parent=0):kT t x=(x,[]):=if_pos h
theorem tB{t:Int}{x:Topic}(h: ¬x.parent=0):kT t x=(gN x,[{ gm with kind:=6,to:=x.parent-1,topic:=t }]):=if_neg h
def ab:=And.intro @pQ (And.intro @pR (And.intro @A4 (And.intro @xt (And.intro @re (And.intro @zV (And.intro @xr (And.intro @rr (And.intro @ug (And.intro @zY (And.intro @rd (And.intro @sZ (And.intro @rf (And.intro @zU (And.intro @aV (And.intro @xw (@xx))))))))))))))))
theorem B0(c:Config)(self:Int)(n:Node)(hp:cV n=false)(hg:ay (fo (c,self,n)).2.1):WW ρ 17 jr fo (c,self,n):=by
 simp only[fo,RR] at hg ⊢
 unfold jr
 simp only[ay,fG,bK] at hg
 generalize hE:ew c self n=q
 unfold ew at hE
 simp (disch:=first|omega|assumption|(constructor<;>first|assumption|omega)|simp only[LN];omega) only[↓SB,S1,↓ab]
 refine ⟨fun hw=>?_,fun hw=>?_⟩
 ·rw[if_neg hw] at hE;rw[←hE];rfl
 rw[if_pos hw] at hE
 obtain ⟨hc,hsr,hu,H⟩:=EX hw
 have hb:=nq hc
 have hsb:=cO hsr
 have hpl:=H.pl;have hml:=H.ml;have hkl:=H.kl;have hcl:=H.cl;have htl:=H.tl
 have hpo:=H.peers
 have hop:=AU hpo
 have hol:=Cu n.peers
 have hpz:jC (ba n.peers) self=0:=by unfold jC;rw[if_pos hop,if_pos (by omega)]
 have hnx:=fun t=>FX (t:=t) hop hsb.1 (by omega)
 have hcz:=tp hop hsb.1 (by omega)
 have hlen:(gM (ba n.peers) self).length≤1000:=by have:=AZ (self:=self) (ba n.peers) 0;unfold gM;omega
 simp (disch:=first|omega|assumption|(constructor<;>first|assumption|omega)|simp only[LN];omega) only[↓SB,S1,↓ab,hpz]
 generalize hlv:gM (ba n.peers) self=live at hE hnx hcz hlen ⊢
 have hcb:=AV H.calls
 have hTok:=qF (c:=c) (self:=self) (l:=n.calls) (T:=n.topics) (fun x hx=>by have:=hcb x hx;omega) H.tops
 refine SUB.val [L (iS n.calls),L (gS c n.calls n.topics)] rfl ?_ ?_
 ·generalize hT:gS c n.calls n.topics=T at hTok ⊢
  simp (disch:=first|omega|assumption|(constructor<;>first|assumption|omega)|simp only[LN];omega) only[↓SB,S1,↓ab]
  refine aO.rule (α:=Nat×List Topic) (fun p=>[I p.1,L p.2,L (iS (n.calls.take p.1))]) (fun p=>p.1≤n.calls.length∧gS c (n.calls.drop p.1) p.2=T∧aU c self 0 p.2=true∧p.2.length=n.topics.length) (fun p=>n.calls.length-p.1) (0,n.topics) rfl ⟨by simp,by simpa using hT,H.tops,rfl⟩ (fun _=>rfl) ?_
  rintro ⟨i,a⟩ ⟨hi,h1,h2,h3⟩
  simp only at hi h1 h2 h3
  have hcl3:=Cw (n.calls.take i)
  have hcl4:(n.calls.take i).length≤i:=by simp;omega
  simp only[app]
  simp (disch:=first|omega|assumption|(constructor<;>first|assumption|omega)|simp only[LN];omega) only[↓SB,S1,↓ab]
  refine ⟨fun h4=>?_,fun h4=>?_⟩
  ·obtain ⟨x,hx⟩:=aL h4
   have hxb:=hcb x (List.mem_of_getElem? hx)
   rw[aT hx,gS] at h1
   have hcs:=Cv hx
   simp (disch:=first|omega|assumption|(constructor<;>first|assumption|omega)|simp only[LN];omega) only[↓SB,S1,↓ab,aB hx,↓sG (a_count:=x.count)]
   refine ⟨fun h5=>?_,fun h5=>?_⟩
   ·rw[if_pos h5] at h1 hcs
    exact ⟨(i+1,a),by rw[hcs];simp,⟨by simp;omega,h1,h2,h3⟩,by simp;omega⟩
   ·rw[if_neg h5] at h1 hcs
    obtain ⟨k,hk⟩:=Int.eq_ofNat_of_zero_le hxb.2.2.1
    obtain ⟨y,hy⟩:=aL (xs:=a) (i:=k) (by omega)
    have hyo:=pX h2 hy
    have hyl:=oP (fq hc hyo)
    obtain ⟨p1,p2⟩:=Db (c:=c) (self:=self) (x:=⟨4,0,0,0,0,x.count⟩) h2 hxb.2.2.1 (by omega)
    have hpq:BT c a x.topic ⟨4,0,0,0,0,x.count⟩=a.set k { y with queue:=x8 y.queue c.queue ⟨4,0,0,0,0,x.count⟩ }:=by
     simp[BT,hk,List.getD_eq_getElem?_getD,hy]
    rw[hk]
    simp (disch:=first|omega|assumption|(constructor<;>first|assumption|omega)|simp only[LN];omega) only[↓SB,S1,↓ab,aB hy,↓bt hy (j:=15) (v:=L (x8 y.queue c.queue ⟨4,0,0,0,0,x.count⟩)) (y:={ y with queue:=x8 y.queue c.queue ⟨4,0,0,0,0,x.count⟩ }) rfl]
    exact ⟨(i+1,BT c a x.topic ⟨4,0,0,0,0,x.count⟩),by rw[hcs,hpq];simp,⟨by simp;omega,h1,p1,by rw[p2,h3]⟩,by simp;omega⟩
  ·rw[aQ h4,gS] at h1
   rw[List.take_of_length_le (by omega),h1]
 simp only[app]
 generalize hT:gS c n.calls n.topics=T at hE hTok ⊢
 obtain ⟨hT1,hT2⟩:=hTok
 simp (disch:=first|omega|assumption|(constructor<;>first|assumption|omega)|simp only[LN];omega) only[↓SB,S1,↓ab]
 refine aO.rule (α:=Nat) (fun i=>[I i,L (ct self live 0 (T.take i)++T.drop i),L (bO self live 0 (T.take i))]) (fun i=>i≤T.length) (fun i=>T.length-i) 0 (by simp[ct,bO,L]) (by omega) (fun _=>rfl) ?_
 intro i hi
 have hGl:(ct self live 0 (T.take i)++T.drop i).length=T.length:=by simp[oT];omega
 have hMl:=(nw (self:=self) (live:=live) (T.take i) 0).2
 have hTl:(T.take i).length≤i:=by simp;omega
 simp only[app]
 simp (disch:=first|omega|assumption|(constructor<;>first|assumption|omega)|simp only[LN];omega) only[↓SB,S1,↓ab]
 refine ⟨fun h4=>?_,fun h4=>?_⟩
 ·obtain ⟨x,hx⟩:=aL h4
  obtain ⟨hS,hM,hX⟩:=DU (self:=self) (live:=live) hx
  have hxo:=pX hT1 hx
  rw[Int.zero_add] at hxo
  have hpc:eE c i self=true:=by simp only[eE,Bool.and_eq_true];exact ⟨by simp[rng];omega,hsr⟩
  have hit:=(Ap hc hpc).1
  have hkk:=(cP.1 hxo).kids
  have hcn:bf (ba n.peers)=true∧rng self 0 ((ba n.peers).length-1)=true∧isT (i:Int)=true:=⟨hop,by simp[rng];omega,hit⟩
  have hk1:=Cs hxo
  obtain ⟨x1,hx1⟩: ∃x1:Topic,x1={ x with kids:=fQ x.kids }:=⟨_,rfl⟩
  rw[←hx1] at hk1
  have hW1:=yk hc hpc hk1
  have hl1:=fq hc hk1
  have hl1b:=oP hl1
  have hP1:=nQ (cP.1 hk1).par
  have hB1:=yn hk1
  have hTk:rc self i live x=if vu self i live=true then if dJ x1=true then (rN self x1,[]) else kT i x1 else if dJ x1=true then (GM i (cK i live self) (eu live (pO { x1 with root:=0 })),D6 i (cK i live self) (eu live (pO { x1 with root:=0 }))) else kT i { x1 with root:=0 }:=by rw[hx1];rfl
  have e1made:x.made=x1.made:=by rw[hx1]
  have e1sub:x.sub=x1.sub:=by rw[hx1]
  have e1top:x.top=x1.top:=by rw[hx1]
  have e1root:x.root=x1.root:=by rw[hx1]
  have e1parent:x.parent=x1.parent:=by rw[hx1]
  have e1asked:x.asked=x1.asked:=by rw[hx1]
  have e1other:x.other=x1.other:=by rw[hx1]
  have e1age:x.age=x1.age:=by rw[hx1]
  have e1path:x.path=x1.path:=by rw[hx1]
  have e1kids:fQ x.kids=x1.kids:=by rw[hx1]
  have e1stream:x.stream=x1.stream:=by rw[hx1]
  have e1queue:x.queue=x1.queue:=by rw[hx1]
  simp (disch:=first|omega|assumption|(constructor<;>first|assumption|omega)|simp only[LN];omega) only[↓SB,S1,↓ab,aB hX,e1made,e1sub,e1top,e1root,e1parent,e1asked,e1other,e1age,e1path,e1kids,e1stream,e1queue]
  refine ⟨fun ho=>?_,fun ho=>?_⟩
  ·have hOw:vu self i live=true:=by simp[vu,ho]
   rw[if_pos hOw] at hTk
   try simp (disch:=first|omega|assumption|(constructor<;>first|assumption|omega)|simp only[LN];omega) only[↓SB,S1,↓ab]
   refine ⟨fun hI=>?_,fun hI=>?_⟩
   ·rw[if_neg (by simp[hI])] at hTk
    refine SUB.path ?_
    simp (disch:=first|omega|assumption|(constructor<;>first|assumption|omega)|simp only[LN];omega) only[↓SB,S1,↓ab]
    refine ⟨fun hz=>?_,fun hz=>?_⟩
    ·rw[vJ hz] at hTk
     rw[hTk] at hS hM
     refine ⟨rfl,?_⟩
     try simp only[app]
     first | rw[fJ (by omega) (by omega),bD hX (y:=x1)] | rw[bD hX (y:=x1)]
     try simp (disch:=first|omega|assumption|(constructor<;>first|assumption|omega)|simp only[LN];omega) only[↓SB,S1,↓ab]
     exact ⟨i+1,by rw[hM,←hS];simp[gm],by omega,by omega⟩
    ·rw[tB hz] at hTk
     rw[hTk] at hS hM
     simp (disch:=first|omega|assumption|(constructor<;>first|assumption|omega)|simp only[LN];omega) only[↓SB,S1,↓ab,↓jb]
     refine ⟨rfl,?_⟩
     try simp only[app]
     first | rw[fJ (by omega) (by omega),bD hX (y:=gN x1)] | rw[bD hX (y:=gN x1)]
     try simp (disch:=first|omega|assumption|(constructor<;>first|assumption|omega)|simp only[LN];omega) only[↓SB,S1,↓ab]
     exact ⟨i+1,by rw[hM,←hS];simp[gm],by omega,by omega⟩
   ·rw[if_pos (by simpa using hI)] at hTk
    refine SUB.path ?_
    simp (disch:=first|omega|assumption|(constructor<;>first|assumption|omega)|simp only[LN];omega) only[↓SB,S1,↓ab]
    refine ⟨rfl,?_⟩
    simp only[app]
    simp (disch:=first|omega|assumption|(constructor<;>first|assumption|omega)|simp only[LN];omega) only[↓SB,S1,↓ab]
    refine ⟨fun hz=>?_,fun hz=>?_⟩
    ·rw[show rN self x1=x1 from if_neg hz] at hTk
     rw[hTk] at hS hM
     first | rw[fJ (by omega) (by omega),bD hX (y:=x1)] | rw[bD hX (y:=x1)]
     try simp (disch:=first|omega|assumption|(constructor<;>first|assumption|omega)|simp only[LN];omega) only[↓SB,S1,↓ab]
     exact ⟨i+1,by rw[hM,←hS];simp[gm],by omega,by omega⟩
    ·rw[show rN self x1=(im self x1).1 from if_pos hz] at hTk
     rw[hTk] at hS hM
     first | rw[fJ (by omega) (by omega),bD hX (y:=(im self x1).1)] | rw[bD hX (y:=(im self x1).1)]
     try simp (disch:=first|omega|assumption|(constructor<;>first|assumption|omega)|simp only[LN];omega) only[↓SB,S1,↓ab]
     exact ⟨i+1,by rw[hM,←hS];simp[gm],by omega,by omega⟩
  ·have hOw: ¬vu self i live=true:=by simp[vu,ho]
   rw[if_neg hOw] at hTk
   obtain ⟨x2,hx2⟩: ∃x2:Topic,x2={ x1 with root:=0 }:=⟨_,rfl⟩
   have hk2:=AR hk1
   rw[←hx2] at hk2 hTk
   have hW2:=yk hc hpc hk2
   have hl2:=fq hc hk2
   have hP2:=nQ (cP.1 hk2).par
   have hB2:=yn hk2
   have hi2:dJ x1=dJ x2:=by rw[hx2];rfl
   rw[hi2] at hTk
   have e2made:x1.made=x2.made:=by rw[hx2]
   have e2sub:x1.sub=x2.sub:=by rw[hx2]
   have e2top:x1.top=x2.top:=by rw[hx2]
   have e2parent:x1.parent=x2.parent:=by rw[hx2]
   have e2asked:x1.asked=x2.asked:=by rw[hx2]
   have e2other:x1.other=x2.other:=by rw[hx2]
   have e2age:x1.age=x2.age:=by rw[hx2]
   have e2path:x1.path=x2.path:=by rw[hx2]
   have e2kids:x1.kids=x2.kids:=by rw[hx2]
   have e2stream:x1.stream=x2.stream:=by rw[hx2]
   have e2queue:x1.queue=x2.queue:=by rw[hx2]
   refine SUB.val [bb x2.made,bb x2.sub,I x2.top,I x2.root,I x2.parent,I x2.asked,I x2.other,I x2.age,L x2.path,L x2.kids,I x2.stream.epoch,I x2.stream.want,I x2.stream.known,L x2.stream.kept,L x2.stream.ahead,L x2.queue] rfl ?_ ?_
   ·simp (disch:=first|omega|assumption|(constructor<;>first|assumption|omega)|simp only[LN];omega) only[↓SB,S1,↓ab]
    refine ⟨fun hz=>?_,fun hz=>?_⟩
    ·rw[hx2]
    ·rw[hx2];simp[hz]
   simp only[app]
   simp (disch:=first|omega|assumption|(constructor<;>first|assumption|omega)|simp only[LN];omega) only[↓SB,S1,↓ab]
   refine ⟨fun hI=>?_,fun hI=>?_⟩
   ·rw[if_neg (by simp[hI])] at hTk
    refine SUB.path ?_
    simp (disch:=first|omega|assumption|(constructor<;>first|assumption|omega)|simp only[LN];omega) only[↓SB,S1,↓ab]
    refine ⟨fun hz=>?_,fun hz=>?_⟩
    ·rw[vJ hz] at hTk
     rw[hTk] at hS hM
     refine ⟨rfl,?_⟩
     try simp only[app]
     first | rw[fJ (by omega) (by omega),bD hX (y:=x2)] | rw[bD hX (y:=x2)]
     try simp (disch:=first|omega|assumption|(constructor<;>first|assumption|omega)|simp only[LN];omega) only[↓SB,S1,↓ab]
     exact ⟨i+1,by rw[hM,←hS];simp[gm],by omega,by omega⟩
    ·rw[tB hz] at hTk
     rw[hTk] at hS hM
     simp (disch:=first|omega|assumption|(constructor<;>first|assumption|omega)|simp only[LN];omega) only[↓SB,S1,↓ab,↓jb]
     refine ⟨rfl,?_⟩
     try simp only[app]
     first | rw[fJ (by omega) (by omega),bD hX (y:=gN x2)] | rw[bD hX (y:=gN x2)]
     try simp (disch:=first|omega|assumption|(constructor<;>first|assumption|omega)|simp only[LN];omega) only[↓SB,S1,↓ab]
     exact ⟨i+1,by rw[hM,←hS];simp[gm],by omega,by omega⟩
   ·rw[if_pos (by simpa using hI)] at hTk
    obtain ⟨y1,hy1⟩: ∃y1:Topic,y1=pO x2:=⟨_,rfl⟩
    have hk3:=AW hk2
    rw[←hy1] at hk3 hTk
    obtain ⟨y2,hy2⟩: ∃y2:Topic,y2=eu live y1:=⟨_,rfl⟩
    have hk4:=AX (live:=live) hk3
    rw[←hy2] at hk4 hTk
    have hO3:=nQ (cP.1 hk3).oth
    have hO4:=nQ (cP.1 hk4).oth
    have hP4:=nQ (cP.1 hk4).par
    have hnb:=hnx i
    have hfe:=F2 y1 live
    rw[←hy2] at hfe
    obtain ⟨e3made,e3sub,e3top,e3root,e3parent,e3asked,e3age,e3path,e3kids,e3stream,e3queue⟩:=hfe
    refine SUB.path ?_
    simp (disch:=first|omega|assumption|(constructor<;>first|assumption|omega)|simp only[LN];omega) only[↓SB,S1,↓ab]
    refine SUB.val [bb y1.made,bb y1.sub,I y1.top,I y1.root,I y1.parent,I y1.asked,I y1.other,I y1.age,L y1.path,L y1.kids,I y1.stream.epoch,I y1.stream.want,I y1.stream.known,L y1.stream.kept,L y1.stream.ahead,L y1.queue] rfl ?_ ?_
    ·have hW3:sL c i self { x2 with age:=min (x2.age+1) 1000 }=0:=yk hc hpc (tv hk2 (by omega) (by omega))
     simp (disch:=first|omega|assumption|(constructor<;>first|assumption|omega)|simp only[LN];omega) only[↓SB,S1,↓ab]
     refine ⟨fun hz=>⟨fun h6=>?_,fun h6=>?_⟩,fun hz=>?_⟩
     ·rw[hy1];unfold pO;rw[if_neg hz,if_pos h6];rfl
     ·rw[hy1];unfold pO;rw[if_neg hz,if_neg h6]
     ·rw[hy1];unfold pO;rw[if_pos hz]
    simp only[app]
    refine SUB.v1 (bb (decide (y1.other≠0)&& !live.contains (y1.other-1))) ?_ ?_
    ·simp (disch:=first|omega|assumption|(constructor<;>first|assumption|omega)|simp only[LN];omega) only[↓SB,S1,↓ab]
     refine ⟨fun hz=>?_,fun hz=>?_⟩ <;>simp[hz]
    refine SUB.v1 (I y2.other) ?_ ?_
    ·simp (disch:=first|omega|assumption|(constructor<;>first|assumption|omega)|simp only[LN];omega) only[↓SB,S1,↓ab]
     refine ⟨fun hz=>?_,fun hz=>?_⟩
     ·rw[hy2,F3 hz]
     ·rw[hy2,FW hz]
    simp (disch:=first|omega|assumption|(constructor<;>first|assumption|omega)|simp only[LN];omega) only[↓SB,S1,↓ab,e3made,e3sub,e3top,e3root,e3parent,e3asked,e3age,e3path,e3kids,e3stream,e3queue]
    refine SUB.v1 (I (if y2.other=0 then cK i live self else y2.other-1)) ?_ ?_
    ·simp (disch:=first|omega|assumption|(constructor<;>first|assumption|omega)|simp only[LN];omega) only[↓SB,S1,↓ab,hlv]
     refine ⟨fun hz=>?_,fun hz=>?_⟩
     ·rw[if_pos hz]
     ·rw[if_neg hz]
    have hto: -1≤(if y2.other=0 then cK i live self else y2.other-1)∧(if y2.other=0 then cK i live self else y2.other-1)<8:=by split<;>omega
    unfold GM D6 at hTk
    generalize (if y2.other=0 then cK i live self else y2.other-1)=to at hto hTk ⊢
    simp (disch:=first|omega|assumption|(constructor<;>first|assumption|omega)|simp only[LN];omega) only[↓SB,S1,↓ab,↓jb,e3made,e3sub,e3top,e3root,e3parent,e3asked,e3age,e3path,e3kids,e3stream,e3queue]
    refine ⟨fun hz=>⟨fun h6=>?_,fun h6=>?_⟩,fun hz=>?_⟩
    ·rw[if_pos ⟨hz,h6⟩] at hTk
     rw[hTk] at hS hM
     try simp (disch:=first|omega|assumption|(constructor<;>first|assumption|omega)|simp only[LN];omega) only[↓SB,S1,↓ab,↓jb]
     refine ⟨rfl,?_⟩
     try simp only[app]
     first | rw[fJ (by omega) (by omega),bD hX (y:={ y2 with asked:=to+1 })] | rw[bD hX (y:={ y2 with asked:=to+1 })]
     try simp (disch:=first|omega|assumption|(constructor<;>first|assumption|omega)|simp only[LN];omega) only[↓SB,S1,↓ab]
     exact ⟨i+1,by rw[hM,←hS];simp[gm],by omega,by omega⟩
    ·rw[if_neg (by intro h;exact h6 h.2)] at hTk
     rw[hTk] at hS hM
     refine ⟨rfl,?_⟩
     try simp only[app]
     first | rw[fJ (by omega) (by omega),bD hX (y:={ y2 with asked:=to+1 })] | rw[bD hX (y:={ y2 with asked:=to+1 })]
     try simp (disch:=first|omega|assumption|(constructor<;>first|assumption|omega)|simp only[LN];omega) only[↓SB,S1,↓ab]
     exact ⟨i+1,by rw[hM,←hS];simp[gm],by omega,by omega⟩
    ·rw[if_neg (by intro h;exact h.1 hz)] at hTk
     rw[hTk] at hS hM
     refine ⟨rfl,?_⟩
     try simp only[app]
     first | rw[fJ (by omega) (by omega),bD hX (y:={ y2 with asked:=to+1 })] | rw[bD hX (y:={ y2 with asked:=to+1 })]
     try simp (disch:=first|omega|assumption|(constructor<;>first|assumption|omega)|simp only[LN];omega) only[↓SB,S1,↓ab]
     exact ⟨i+1,by rw[hM,←hS];simp[gm],by omega,by omega⟩
 ·rw[List.take_of_length_le (by omega),List.drop_eq_nil_of_le (by omega),List.append_nil]
  obtain ⟨hMb,hMn⟩:=nw (self:=self) (live:=live) T 0
  refine aO.rule (α:=Nat) (fun j=>[I j,L (bO self live 0 T++jq self j)]) (fun j=>(j:Int)≤c.nodes) (fun j=>c.nodes.toNat-j) 0 (by simp[jq]) (by omega) (fun _=>rfl) ?_
  intro j hj
  have hpn:=DV self j
  have hps:=Cx (self:=self) (i:=j)
  simp only[app]
  simp (disch:=first|omega|assumption|(constructor<;>first|assumption|omega)|simp only[LN];omega) only[↓SB,S1,↓ab]
  refine ⟨fun h=>⟨fun h5=>?_,fun h5=>?_⟩,fun h=>?_⟩
  ·rw[if_neg h5] at hps
   simp (disch:=first|omega|assumption|(constructor<;>first|assumption|omega)|simp only[LN];omega) only[↓SB,S1,↓ab,↓jb]
   exact ⟨j+1,by rw[hps];simp[gm],by omega,by omega⟩
  ·rw[if_pos h5] at hps
   exact ⟨j+1,by rw[hps];simp,by omega,by omega⟩
  ·have hj2:(j:Int)=c.nodes:=by omega
   have hpre:(bO self live 0 T++jq self j).length≤1000∧(ba n.peers).length≤12∧ ∀m∈bO self live 0 T++jq self j,m.path.length≤30∧m.todo.length≤30:=by
    refine ⟨by simp;omega,by omega,fun m hm=>?_⟩
    have:m.path=[]∧m.todo=[]:=(List.mem_append.1 hm).elim (hMb m) Cy
    rw[this.1,this.2];simp
   have hM:fa ρ (I self) (bb n.up) (I n.inc) (L (ba n.peers)) (L (ct self live 0 T)) (L (iS n.calls)) (I n.pubs) (I n.asks) (L n.marks) (L n.taken) (L (bO self live 0 T++jq self j)) (fun xs=>[bb n.up,I n.inc,L (ba n.peers),L (ct self live 0 T),L (iS n.calls),I n.pubs,I n.asks,L n.marks,L n.taken,xs.headD (I 0),I 0]=[bb q.1.up,I q.1.inc,L q.1.peers,L q.1.topics,L q.1.calls,I q.1.pubs,I q.1.asks,L q.1.marks,L q.1.taken,L q.2.1,I q.2.2]):=by
    refine AP (self:=self) (n:=⟨n.up,n.inc,ba n.peers,ct self live 0 T,iS n.calls,n.pubs,n.asks,n.marks,n.taken⟩) (l:=bO self live 0 T++jq self j) hpre ?_
    rw[←hE,hj2]
    simp only[Ey,G5,hlv,hT,List.headD]
   unfold fa at hM
   rw[Eh] at hM
   exact hM
end Go.Xt
end
section
set_option linter.unusedSimpArgs false
set_option linter.unusedVariables false
set_option maxRecDepth 100000
namespace Go.Xt
set_option linter.defProp false
def wT:=ew zK 3 wN0
def wL:List Msg:=[{ gm with kind:=6,to:=1 },{ gm with kind:=1,to:=2 }]
def wR:=qx zK 3 wN0 wL
theorem wt0:cV wN0=false∧wT.2.2=0∧wT.2.1.length=7∧wT.1.up=true∧wR.2=0∧wR.1.length=1:=by decide +kernel
theorem wt1:wT.2.1[0]? =some { gm with kind:=1,frm:=3,fromInc:=1,to:=0 }:=by decide +kernel
theorem wt2:wR.1[0]? =some { gm with kind:=1,frm:=3,fromInc:=1,to:=2 }:=by decide +kernel
theorem wt3:cV wN0=false∧wL.length≤1000∧ ∀m∈wL,m.path.length≤30∧m.todo.length≤30:=by
 refine ⟨wt0.1,by decide,fun m hm=>?_⟩
 simp only[wL,List.mem_cons,List.not_mem_nil,or_false] at hm
 rcases hm with rfl | rfl<;>decide
def uz:=And.intro @ir (And.intro @ju (@pT))
theorem uA  :WW ρ 0 jQ eF ():=by
 simp only[eF,RR]
 unfold jQ
 have e8:(8:Int).toNat=8:=rfl
 have e4:(4:Int).toNat=4:=rfl
 rw[ir]
 have cT: ∀k,CALL ρ 10 [I 8,I 4,I 2,I 8,I 8,I 8,I 16,I 3,bb true,I 1,L wN0.peers,L wN0.topics,L (α:=Call) [],I 0,I 0,L wN0.marks,L (α:=Mark2) []] 11 k=k (bb wT.1.up) (I wT.1.inc) (L wT.1.peers) (L wT.1.topics) (L wT.1.calls) (I wT.1.pubs) (I wT.1.asks) (L wT.1.marks) (L wT.1.taken) (L wT.2.1) (I wT.2.2) :=
  fun k=>ju (k_:=k) wt0.1
 have cR: ∀k,CALL ρ 38 [I 8,I 4,I 2,I 8,I 8,I 8,I 16,I 3,bb true,I 1,L wN0.peers,L wN0.topics,L (α:=Call) [],I 0,I 0,L wN0.marks,L (α:=Mark2) [],L wL] 2 k=k (L wR.1) (I wR.2) :=
  fun k=>pT (k_:=k) wt3
 have f1:(List.replicate 8 (⟨0,0⟩:Peer))=wN0.peers:=rfl
 have f2:(List.replicate 4 bZ)=wN0.topics:=rfl
 have f3:(List.replicate 8 (⟨0,0,0⟩:Mark))=wN0.marks:=rfl
 have f4: ∀k,OP (.rows 16) [I 6,I 0,I 0,I 1,I 0,I 0,I 0,I 0,I 0,I 0,I 0,I 0,I 0,I 0,.list [],.list [],I 1,I 0,I 0,I 2,I 0,I 0,I 0,I 0,I 0,I 0,I 0,I 0,I 0,I 0,.list [],.list []] k=k (L wL):=fun k=>aq (by rfl)
 refine Or.inl ⟨[L wN0.peers,L wN0.topics,L wN0.marks,bb wT.1.up,I wT.1.inc,L wT.1.calls,I wT.1.pubs,I wT.1.asks,L wT.1.marks,L wT.1.taken,L wT.2.1,I wT.2.2,L wT.2.1,I wT.2.2,bb wT.1.up,I wT.1.inc,L wT.1.calls,I wT.1.pubs,I wT.1.asks,L wT.1.marks,L wT.1.taken,L wT.1.topics,L wT.1.peers,L wN0.peers,L wN0.topics,L wN0.marks],rfl,?_,?_⟩
 ·simp (disch:=omega) only[mU,kS,mV,e8,e4,f1,f2,f3,cT,and_self]
 simp only[app]
 refine Or.inl ⟨[L wN0.peers,L wN0.topics,L wN0.marks,L wL,I wR.2,I wR.2,L wR.1,L wN0.peers,L wN0.topics,L wN0.marks],rfl,?_,?_⟩
 ·simp (disch:=omega) only[mU,kS,mV,e8,e4,f1,f2,f3,f4,cR,and_self]
 simp only[app]
 obtain ⟨g0,g1,g2,g3,g4,g5⟩:=wt0
 have g2':(wT.2.1.length:Int)=7:=by rw[g2];rfl
 have g5':(wR.1.length:Int)=1:=by rw[g5];rfl
 have h1: ∀j,(L wT.2.1).cellAt (I 0) j=look (Row.row ({ gm with kind:=1,frm:=3,fromInc:=1,to:=0 }:Msg)) j:=fun j=>aB (i:=0) wt1
 have h2: ∀j,(L wR.1).cellAt (I 0) j=look (Row.row ({ gm with kind:=1,frm:=3,fromInc:=1,to:=2 }:Msg)) j:=fun j=>aB (i:=0) wt2
 rw[g1,g3,g4]
 simp (disch:=first|omega|assumption|(constructor<;>first|assumption|omega)|simp only[LN];omega) only[↓SB,S1,↓uz,h1,h2,g2',g5']
end Go.Xt
end
section
set_option linter.unusedSimpArgs false
set_option linter.unusedVariables false
set_option maxRecDepth 100000
namespace Go.Xt
set_option maxHeartbeats 4000000
structure Quiet (x y:Topic):Prop where
 made:y.made=x.made
 sub:y.sub=x.sub
 top:x.top≤y.top
 kids:y.kids.length≤x.kids.length
 queue:x.queue.length≤y.queue.length
 str:y.stream=x.stream∨(y.root≠0∧y.root≠x.root)
end Go.Xt
end
section
set_option linter.unusedSimpArgs false
set_option linter.unusedVariables false
set_option maxRecDepth 100000
namespace Go.Xt
inductive Pre (c:Config) (me:Int):Msg→Prop
 | ping (i:Int) (h0:0≤i) (h1:i<c.nodes) (h2:i≠me):Pre c me { gm with kind:=1,to:=i }
 | join (t a e:Int) (h0:0≤t) (h1:t<c.topics) (h2:a= -1∨eD t a me=true) (h3:rng e 0 1073741824=true):Pre c me { gm with kind:=2,to:=a,topic:=t,epoch:=e }
 | leave (t a:Int) (h0:0≤t) (h1:t<c.topics) (h2:a= -1∨eD t a me=true):Pre c me { gm with kind:=6,to:=a,topic:=t }
 | nack (t a e s:Int) (h0:0≤t) (h1:t<c.topics) (h2:a= -1∨eD t a me=true) (h3:rng e 1 1073741824=true) (h4:cnt s=true):Pre c me { gm with kind:=8,to:=a,topic:=t,epoch:=e,seq:=s }
structure Out (c:Config) (me:Int) (n:Node) (m:Msg):Prop where
 frm:m.frm=me
 finc:m.fromInc=n.inc
 ne:m.to≠me
 lo:0≤m.to
 hi:m.to<c.nodes
 top:m.topic<c.topics
 kind:m.kind=1∨((m.kind=2∨m.kind=6∨m.kind=8)∧m.toInc=(n.peers.getD m.to.toNat ⟨0,0⟩).inc)
end Go.Xt
end
section
set_option linter.unusedSimpArgs false
set_option linter.unusedVariables false
set_option maxRecDepth 100000
namespace Go.Xt
set_option maxHeartbeats 4000000
end Go.Xt
end
section
set_option linter.unusedSimpArgs false
set_option linter.unusedVariables false
set_option maxRecDepth 100000
namespace Go.Xt
set_option maxHeartbeats 4000000
def own(t:Int)(l:List Int):Int:=(lR t l).1
structure NotOwn (t me nx:Int) (X:Topic):Prop where
 root:X.root=0
 free:dJ X=false→X.parent=0∧X.path=[]
 ask0:dJ X=true→X.other=0→X.asked=nx+1
 ask1:dJ X=true→X.other≠0→X.asked=X.other
end Go.Xt
end
section
set_option linter.unusedSimpArgs false
set_option linter.unusedVariables false
set_option maxRecDepth 100000
namespace Go.Xt
set_option maxHeartbeats 4000000
theorem B5{xs:List Topic}{x y:Topic}{i:Nat}{v0 v1 v2 v3 v4 v5 v6 v7 v8 v9 v10 v11 v12 v13 v14 v15:PV}{k:PV→Prop}(h:xs[i]? =some x)(hv:[v0,v1,v2,v3,v4,v5,v6,v7,v8,v9,v10,v11,v12,v13,v14,v15]=Row.row y):(OP (.set 0) [L xs,I i,v0] fun w0=>OP (.set 1) [w0,I i,v1] fun w1=>OP (.set 2) [w1,I i,v2] fun w2=>OP (.set 3) [w2,I i,v3] fun w3=>OP (.set 4) [w3,I i,v4] fun w4=>OP (.set 5) [w4,I i,v5] fun w5=>OP (.set 6) [w5,I i,v6] fun w6=>OP (.set 7) [w6,I i,v7] fun w7=>OP (.set 8) [w7,I i,v8] fun w8=>OP (.set 9) [w8,I i,v9] fun w9=>OP (.set 10) [w9,I i,v10] fun w10=>OP (.set 11) [w10,I i,v11] fun w11=>OP (.set 12) [w11,I i,v12] fun w12=>OP (.set 13) [w12,I i,v13] fun w13=>OP (.set 14) [w13,I i,v14] fun w14=>OP (.set 15) [w14,I i,v15] fun w15=>k w15)=k (L (xs.set i y)):=by
 rw[Topic.row_eq] at hv
 simp only[List.cons.injEq,and_true] at hv
 obtain ⟨rfl,rfl,rfl,rfl,rfl,rfl,rfl,rfl,rfl,rfl,rfl,rfl,rfl,rfl,rfl,rfl⟩:=hv
 exact bD h
def lO(j:Int):Int:=(lR j gl).1
def lT(j:Int):Topic:={ bZ with made:=true,sub:=true,parent:=lO j+1,asked:=lO j+1,path:=[lO j] }
def l0(j:Int):Node:={ wN0 with peers:=(wN0.peers.set (lO j).toNat ⟨1,0⟩),topics:=wN0.topics.set j.toNat (lT j),asks:=1,calls:=[⟨1,j,0⟩] }
end Go.Xt
end
section
set_option linter.unusedSimpArgs false
set_option linter.unusedVariables false
set_option maxRecDepth 100000
namespace Go.Xt
set_option linter.defProp false
set_option maxHeartbeats 4000000
theorem qG(t self:Int): ∀i,(ey t self i).length≤i
 | 0=>by simp[ey]
 | i+1=>by
  have ih:=qG t self i
  unfold ey
  split
  ·simp;omega
  ·omega
theorem F4{n:Int}{k:PV→Prop}:OP (.rows 1) [I n] k=k (L [n]):=aq (by simp[ev,bh,L,Row.row])
theorem B6(t:Int)(self:Int):WW ρ 2 nj dR (t,self):=by
 simp only[dR,RR]
 unfold nj
 refine aO.rule (α:=Nat) (fun i=>[I i,L (ey t self i)]) (fun i=>i≤8) (fun i=>8-i) 0 rfl (by omega) (fun _=>rfl) ?_
 intro i hi
 have hl:=qG t self i
 have hg:ey t self (i+1)=if eD t self i=true then (ey t self i).take (rn t i (ey t self i) (ey t self i).length)++[(i:Int)]++(ey t self i).drop (rn t i (ey t self i) (ey t self i).length) else ey t self i:=rfl
 simp only[app]
 simp (disch:=first|omega|assumption|(constructor<;>first|assumption|omega)|simp only[LN];omega) only[↓SB,S1,↓aJ]
 refine ⟨fun h4=>⟨fun h5=>?_,fun h5=>?_⟩,fun h4=>?_⟩
 ·rw[if_neg (by simp[h5])] at hg
  exact ⟨i+1,by rw[hg];simp,by omega,by omega⟩
 ·rw[if_pos h5] at hg
  generalize ey t self i=l at hl hg ⊢
  refine aO.rule (α:=Nat) (fun k=>[I k]) (fun k=>k≤l.length∧rn t i l k=rn t i l l.length) (fun k=>k) l.length rfl ⟨by omega,rfl⟩ (fun _=>rfl) ?_
  rintro k ⟨hk,hf⟩
  simp only[app]
  refine SUB.v1 (bb (decide (0<k)&&eD t i (l.getD (k-1) 0))) ?_ ?_
  ·simp (disch:=first|omega|assumption|(constructor<;>first|assumption|omega)|simp only[LN];omega) only[↓SB,S1,↓aJ]
   refine ⟨fun h6=>?_,fun h6=>?_⟩
   ·have hc:(L l).cellAt (PV.int IntKind.i64 ((k:Int)-1)) 0=I (l.getD (k-1) 0):=by
     rw[Gh (by omega) (by omega)];congr 2;omega
    simp (disch:=first|omega|assumption|(constructor<;>first|assumption|omega)|simp only[LN];omega) only[↓SB,S1,↓aJ,hc]
    simp[show 0<k by omega]
   ·simp[show ¬0<k by omega]
  cases hb:(decide (0<k)&&eD t i (l.getD (k-1) 0))
  ·have hkk:rn t i l k=k:=by
    cases k with
    | zero=>rfl
    | succ k =>
     have h7: ¬eD t i (l.getD k 0)=true:=by simpa using hb
     unfold rn;rw[if_neg h7]
   rw[←hf,hkk] at hg
   have hres: ∃a':Nat,[I ((i:Int)+1),L (l.take k++[(i:Int)]++l.drop k)]=[I (a':Int),L (ey t self a')]∧a'≤8∧8-a'<8-i:=⟨i+1,by rw[hg];simp,by omega,by omega⟩
   have hb1:(l.take k).length≤8:=by simp;omega
   have hb2:(l.drop k).length≤8:=by simp;omega
   simp (disch:=first|omega|assumption|(constructor<;>first|assumption|omega)|simp only[LN];omega) only[↓SB,S1,↓aJ,↓fX,Int.toNat_natCast]
   first | exact ⟨⟨hres,hres⟩,hres⟩ | exact hres | trace_state
  ·simp only[Bool.and_eq_true,decide_eq_true_eq] at hb
   simp (disch:=first|omega|assumption|(constructor<;>first|assumption|omega)|simp only[LN];omega) only[↓SB,S1,↓aJ]
   have hk1:rn t i l k=rn t i l (k-1):=by
    obtain ⟨m,rfl⟩: ∃m,k=m+1:=⟨k-1,by omega⟩
    conv=>lhs;unfold rn
    rw[if_pos (by simpa using hb.2)];rfl
   exact ⟨k-1,by congr 2;omega,⟨by omega,by rw[←hk1,hf]⟩,by omega⟩
 ·have:i=8:=by omega
  subst this;rfl
def ol:=And.intro @pQ (@A3)
theorem uB(t:Int):WW ρ 1 jR cE t:=by
 simp only[cE,RR]
 unfold jR
 generalize hE:dD t=q
 unfold dD at hE
 have hnl:L [(0:Int),1,2,3,4,5,6,7]=L gl:=rfl
 simp (disch:=first|omega|assumption|(constructor<;>first|assumption|omega)|simp only[LN];omega) only[↓SB,S1,↓ol,↓zh,hnl]
 refine ⟨fun h=>?_,fun h=>?_⟩
 ·rw[if_neg (show ¬(lR t gl).2=0 from h)] at hE;subst hE;rfl
 ·rw[if_pos (show (lR t gl).2=0 from h)] at hE;subst hE
  have hl2:(GN t (lR t [0,1,2,3,4,5,6,7]).1).length≤8:=qG t _ 8
  simp (disch:=first|omega|assumption|(constructor<;>first|assumption|omega)|simp only[LN];omega) only[↓SB,S1,↓ol]
  rfl
end Go.Xt
end
section
set_option linter.unusedSimpArgs false
set_option linter.unusedVariables false
set_option maxRecDepth 100000
namespace Go.Xt
set_option linter.defProp false
set_option maxHeartbeats 4000000
def sE(t:Int)(i:Nat):Int:=(dD t).getD i 0
def sT(t:Int):Topic:=⟨true,true,0,0,0,0,sE t 2+1,0,[],[],⟨0,0,0,[],[]⟩,[]⟩
def sN(t a:Int):Node:=⟨true,1,(wN0.peers.set (sE t 0).toNat ⟨1,0⟩).set (sE t 2).toNat ⟨1,a⟩,wN0.topics.set t.toNat (sT t),[],0,0,wN0.marks,[]⟩
def sW(t a:Int):=ew zK (sE t 6) (sN t a)
def jGo:List Msg→Int→Int→Int×Int
 | [],j,to=>(j,to)
 | m::r,j,to=>if m.kind=2 then jGo r (j+1) m.to else jGo r j to
def sOk(t a:Int):Bool :=
 !cV (sN t a)&&decide ((sW t a).2.2=0)&&decide ((sW t a).1.topics.length=4)&&decide ((sW t a).2.1.length≤100) &&
 decide (jGo (sW t a).2.1 0 (-1)=(1,if a+1<4 then sE t 2 else sE t 0)) &&
 decide (((sW t a).1.topics.getD t.toNat bZ).asked=(if a+1<4 then sE t 2 else sE t 0)+1) &&
 decide (((sW t a).1.topics.getD t.toNat bZ).other=if a+1<4 then sE t 2+1 else 0)
theorem Hx: ∀t:Fin 4,((dD (t.val:Int)).length=8∧eD t.val (sE t.val 2) (sE t.val 6)=true∧(0≤sE t.val 0∧sE t.val 0<8)∧(0≤sE t.val 2∧sE t.val 2<8)∧sE t.val 0≠sE t.val 2)∧ ∀a:Fin 8,sOk t.val a.val=true:=by decide +kernel
theorem vK{t:Int}{i:Nat}(h:(dD t).length=8)(hi:i<8):(dD t)[i]? =some (sE t i):=by
 unfold sE
 rw[List.getD_eq_getElem?_getD]
 obtain ⟨x,hx⟩:=aL (xs:=dD t) (i:=i) (by omega)
 rw[hx];rfl
def aD:=And.intro @ir (And.intro @og (And.intro @ju (And.intro @oe (@aJ))))
theorem oU(t:Int)(age:Int):WW ρ 2 eT bT (t,age):=by
 simp only[bT,RR]
 unfold eT
 have e8:(8:Int).toNat=8:=rfl
 have e4:(4:Int).toNat=4:=rfl
 have k1:0≤u64 t % 4∧u64 t % 4<4:=⟨Int.emod_nonneg _ (by omega),Int.emod_lt_of_pos _ (by omega)⟩
 have k2:0≤u64 age % 8∧u64 age % 8<8:=⟨Int.emod_nonneg _ (by omega),Int.emod_lt_of_pos _ (by omega)⟩
 simp (disch:=first|omega|assumption|(constructor<;>first|assumption|omega)|simp only[LN];omega) only[↓SB,S1,↓aD]
 generalize u64 t % 4=T at k1 ⊢
 generalize u64 age % 8=A at k2 ⊢
 obtain ⟨t,rfl⟩:=Int.eq_ofNat_of_zero_le k1.1
 obtain ⟨a,rfl⟩:=Int.eq_ofNat_of_zero_le k2.1
 have ht:t<4:=by omega
 have ha:a<8:=by omega
 obtain ⟨⟨hl,hn,hb0,hb2,hne⟩,hall⟩:=Hx ⟨t,ht⟩
 have hok:=hall ⟨a,ha⟩
 have hl':(dD (t:Int)).length=8:=hl
 have hn':eD t (sE t 2) (sE t 6)=true:=hn
 have c0: ∀j,(L (dD (t:Int))).cellAt (I 0) j=look (Row.row (sE t 0)) j:=fun j=>aB (i:=0) (vK hl' (by omega))
 have c2: ∀j,(L (dD (t:Int))).cellAt (I 2) j=look (Row.row (sE t 2)) j:=fun j=>aB (i:=2) (vK hl' (by omega))
 have c6: ∀j,(L (dD (t:Int))).cellAt (I 6) j=look (Row.row (sE t 6)) j:=fun j=>aB (i:=6) (vK hl' (by omega))
 refine SUB.v1 (bb false) ?_ ?_
 ·simp (disch:=first|omega|assumption|(constructor<;>first|assumption|omega)|simp only[LN];omega) only[↓SB,S1,↓aD,c2,c6,hn']
  exact fun h=>absurd (by omega) h
 simp (disch:=first|omega|assumption|(constructor<;>first|assumption|omega)|simp only[LN];omega) only[↓SB,S1,↓aD,c0,c2,c6]
 refine SUB.v3 (L wN0.marks) (L wN0.topics) (L wN0.peers) ?_ ?_
 ·simp (disch:=first|omega|assumption|(constructor<;>first|assumption|omega)|simp only[LN];omega) only[↓SB,S1,↓aD,e8,e4,and_self]
  rfl
 have hb0':0≤sE t 0∧sE t 0<8:=hb0
 have hb2':0≤sE t 2∧sE t 2<8:=hb2
 have hne':sE t 0≠sE t 2:=hne
 obtain ⟨q,hq⟩:=Int.eq_ofNat_of_zero_le hb0'.1
 obtain ⟨p,hp⟩:=Int.eq_ofNat_of_zero_le hb2'.1
 have hqp:q≠p:=by omega
 have hpl:wN0.peers.length=8:=rfl
 have htl:wN0.topics.length=4:=rfl
 have get0: ∀i,i<8→wN0.peers[i]? =some ⟨0,0⟩:=by
  intro i hi
  show (List.replicate 8 (⟨0,0⟩:Peer))[i]? =_
  rw[List.getElem?_replicate,if_pos (by omega)]
 have hp0:=get0 q (by omega)
 have hp1:(wN0.peers.set q ⟨1,0⟩)[q]? =some ⟨1,0⟩:=by rw[List.getElem?_set_self (by omega)]
 have hp2:(wN0.peers.set q ⟨1,0⟩)[p]? =some ⟨0,0⟩:=by rw[List.getElem?_set_ne hqp];exact get0 p (by omega)
 have hp3:((wN0.peers.set q ⟨1,0⟩).set p ⟨1,0⟩)[p]? =some ⟨1,0⟩:=by rw[List.getElem?_set_self (by rw[List.length_set];omega)]
 have ht0:wN0.topics[t]? =some bZ:=by
  show (List.replicate 4 bZ)[t]? =_
  rw[List.getElem?_replicate,if_pos (by omega)]
 refine SUB.v1 (L ((wN0.peers.set q ⟨1,0⟩).set p ⟨1,(a:Int)⟩)) ?_ ?_
 ·rw[hq,hp,fJ (by omega) (by omega),bt hp0 (j:=0) (v:=I 1) (y:=⟨1,0⟩) rfl,bt hp1 (j:=1) (v:=I 0) (y:=⟨1,0⟩) rfl,List.set_set,fJ (by omega) (by rw[List.length_set];omega),bt hp2 (j:=0) (v:=I 1) (y:=⟨1,0⟩) rfl,bt hp3 (j:=1) (v:=I a) (y:=⟨1,a⟩) rfl,List.set_set]
 rw[hp]
 simp (disch:=first|omega|assumption|(constructor<;>first|assumption|omega)|simp only[LN];omega) only[↓SB,S1,↓aD]
 rw[B5 ht0 (y:=sT t) (by unfold sT;rw[hp];rfl)]
 simp only[sOk,Bool.and_eq_true,decide_eq_true_eq,Bool.not_eq_true'] at hok
 obtain ⟨⟨⟨⟨⟨⟨f1,f2⟩,f3⟩,f4⟩,f5⟩,f6⟩,f7⟩:=hok
 have hN:sN t a=⟨true,1,(wN0.peers.set q ⟨1,0⟩).set p ⟨1,(a:Int)⟩,wN0.topics.set t (sT t),[],0,0,wN0.marks,[]⟩:=by unfold sN;rw[hq,hp];rfl
 have f1':cV ⟨true,1,(wN0.peers.set q ⟨1,0⟩).set p ⟨1,(a:Int)⟩,wN0.topics.set t (sT t),[],0,0,wN0.marks,[]⟩=false:=by rw[←hN];exact f1
 have hT:ew ⟨8,4,2,8,8,8,16⟩ (sE t 6) ⟨true,1,(wN0.peers.set q ⟨1,0⟩).set p ⟨1,(a:Int)⟩,wN0.topics.set t (sT t),[],0,0,wN0.marks,[]⟩=((sW t a).1,(sW t a).2.1,0):=by rw[←hN];exact Prod.ext rfl (Prod.ext rfl f2)
 have f3':(sW t a).1.topics.length=4:=f3
 have f4':(sW t a).2.1.length≤100:=f4
 have f5':jGo (sW t a).2.1 0 (-1)=(1,if (a:Int)+1<4 then sE t 2 else sE t 0):=f5
 have f6':((sW t a).1.topics.getD t bZ).asked=(if (a:Int)+1<4 then sE t 2 else sE t 0)+1:=f6
 have f7':((sW t a).1.topics.getD t bZ).other=if (a:Int)+1<4 then sE t 2+1 else 0:=f7
 generalize sW t a=W at hT f3' f4' f5' f6' f7'
 rw[hq,hp] at f5' f6'
 rw[hp] at f7'
 obtain ⟨y,hy⟩:=aL (xs:=W.1.topics) (i:=t) (by omega)
 have hyd:W.1.topics.getD t bZ=y:=by simp[List.getD_eq_getElem?_getD,hy]
 rw[hyd] at f6' f7'
 simp (disch:=first|omega|assumption|(constructor<;>first|assumption|omega)|simp only[LN];omega) only[↓SB,S1,↓aD,hT]
 refine SUB.v1 (bb false) ?_ ?_
 ·simp (disch:=first|omega|assumption|(constructor<;>first|assumption|omega)|simp only[LN];omega) only[↓SB,S1,↓aD,hT]
  simp[f3']
 simp (disch:=first|omega|assumption|(constructor<;>first|assumption|omega)|simp only[LN];omega) only[↓SB,S1,↓aD]
 refine aO.rule (α:=Nat×Nat×Int) (fun z=>[I z.2.1,I z.2.2,I z.1]) (fun z=>z.1≤W.2.1.length∧z.2.1≤z.1∧jGo (W.2.1.drop z.1) z.2.1 z.2.2=jGo W.2.1 0 (-1)) (fun z=>W.2.1.length-z.1) (0,0,-1) rfl ⟨by simp,by simp,by simp⟩ (fun _=>rfl) ?_
 rintro ⟨i,j,to⟩ ⟨hi,hj,hs⟩
 simp only at hi hj hs
 simp only[app]
 simp (disch:=first|omega|assumption|(constructor<;>first|assumption|omega)|simp only[LN];omega) only[↓SB,S1,↓aD]
 refine ⟨fun h4=>?_,fun h4=>?_⟩
 ·obtain ⟨m,hm⟩:=aL h4
  rw[aT hm,jGo] at hs
  simp (disch:=first|omega|assumption|(constructor<;>first|assumption|omega)|simp only[LN];omega) only[↓SB,S1,↓aD,aB hm]
  refine ⟨fun h5=>?_,fun h5=>?_⟩
  ·rw[if_pos h5] at hs
   exact ⟨(i+1,j+1,m.to),by simp,⟨by simp;omega,by simp;omega,by simpa using hs⟩,by simp;omega⟩
  ·rw[if_neg h5] at hs
   exact ⟨(i+1,j,to),by simp,⟨by simp;omega,by simp;omega,hs⟩,by simp;omega⟩
 ·rw[aQ h4,jGo,f5'] at hs
  simp only[Prod.mk.injEq] at hs
  obtain ⟨hs1,hs2⟩:=hs
  rw[hq]
  by_cases hA:(a:Int)+1<4
  ·rw[if_pos hA] at f6' f7' hs2
   simp (disch:=first|omega|assumption|(constructor<;>first|assumption|omega)|simp only[LN];omega) only[↓SB,S1,↓aD,aB hy,hA,hs1,hs2,f6',f7']
  ·rw[if_neg hA] at f6' f7' hs2
   simp (disch:=first|omega|assumption|(constructor<;>first|assumption|omega)|simp only[LN];omega) only[↓SB,S1,↓aD,aB hy,hA,hs1,hs2,f6',f7']
end Go.Xt
end
section
set_option linter.unusedSimpArgs false
set_option linter.unusedVariables false
set_option maxRecDepth 100000
namespace Go.Xt
set_option linter.defProp false
set_option maxHeartbeats 4000000
def pZ(o t:Int)(m:Msg)(c:Nat×Nat):Nat×Nat:=(if m.kind=6∧m.to=o∧m.toInc=7∧m.topic=t then c.1+1 else c.1,if m.kind=2∧m.to=o then c.2+1 else c.2)
def vGo(o t:Int):List Msg→Nat×Nat→Nat×Nat
 | [],c=>c
 | m::r,c=>vGo o t r (pZ o t m c)
def vT(t:Int):Topic:=⟨false,false,0,0,sE t 0+1,sE t 0+1,0,0,[sE t 0],[⟨sE t 5,1,3⟩],⟨0,0,0,[],[]⟩,[]⟩
def vN(t:Int):Node:=⟨true,1,wN0.peers.set (sE t 0).toNat ⟨7,0⟩,wN0.topics.set t.toNat (vT t),[],0,0,wN0.marks,[]⟩
def vH(t:Int)(n:Node):Node:={ n with peers:=n.peers.set (sE t 0).toNat ⟨(n.peers.getD (sE t 0).toNat ⟨0,0⟩).inc,0⟩,topics:=n.topics.set t.toNat { n.topics.getD t.toNat bZ with age:=0 } }
def vW(t:Int)(n:Node):=ew zK (sE t 3) (vH t n)
def vNx(t:Int)(p:Node×Nat×Nat):Node×Nat×Nat:=((vW t p.1).1,vGo (sE t 0) t (vW t p.1).2.1 p.2)
def vAt(t:Int):Nat→Node×Nat×Nat
 | 0=>(vN t,0,0)
 | i+1=>vNx t (vAt t i)
def vOk(t:Int)(i:Nat)(p:Node×Nat×Nat):Bool :=
 !cV (vH t p.1)&&decide ((vW t p.1).2.2=0)&&decide ((vW t p.1).1.topics.length=4)&&decide ((vW t p.1).1.peers.length=8)&&decide ((vW t p.1).2.1.length≤100) &&
 decide (p.1.topics.length=4)&&decide (p.1.peers.length=8)&&decide (p.2=(if i≤3 then 0 else 1,if i≤3 then i else 3))&&(decide (i≤3)||decide ((p.1.topics.getD t.toNat bZ).parent=0))
def FY(t:Int):Nat→Nat→Node×Nat×Nat→Bool
 | 0,_,_=>true
 | f+1,i,p=>vOk t i p&&FY t f (i+1) (vNx t p)
theorem B7{t:Int}: ∀(f i:Nat),FY t f i (vAt t i)=true→ ∀d,d<f→vOk t (i+d) (vAt t (i+d))=true
 | 0,_,_,d,h=>by omega
 | f+1,i,h,d,hd=>by
  rw[FY,Bool.and_eq_true] at h
  cases d with
  | zero=>exact h.1
  | succ d =>
   have:=B7 f (i+1) h.2 d (by omega)
   rw[show i+1+d=i+(d+1) by omega] at this;exact this
theorem Hy: ∀t:Fin 4,((dD (t.val:Int)).length=8∧(0≤sE t.val 0∧sE t.val 0<8))∧FY t.val 13 0 (vN t.val,0,0)=true:=by decide +kernel
def ax:=And.intro @ir (And.intro @og (And.intro @ju (@oe)))
theorem oV(t:Int)(ticks:Int):WW ρ 2 eS bR (t,ticks):=by
 simp only[bR,RR]
 unfold eS
 have e8:(8:Int).toNat=8:=rfl
 have e4:(4:Int).toNat=4:=rfl
 have k1:0≤u64 t % 4∧u64 t % 4<4:=⟨Int.emod_nonneg _ (by omega),Int.emod_lt_of_pos _ (by omega)⟩
 have k2:0≤u64 ticks % 12∧u64 ticks % 12<12:=⟨Int.emod_nonneg _ (by omega),Int.emod_lt_of_pos _ (by omega)⟩
 simp (disch:=first|omega|assumption|(constructor<;>first|assumption|omega)|simp only[LN];omega) only[↓SB,S1,↓ax]
 generalize u64 t % 4=T at k1 ⊢
 generalize u64 ticks % 12=A at k2 ⊢
 obtain ⟨t,rfl⟩:=Int.eq_ofNat_of_zero_le k1.1
 obtain ⟨a,rfl⟩:=Int.eq_ofNat_of_zero_le k2.1
 have ht:t<4:=by omega
 have ha:a<12:=by omega
 obtain ⟨⟨hl,hb0⟩,hall⟩:=Hy ⟨t,ht⟩
 have hl':(dD (t:Int)).length=8:=hl
 have hb0':0≤sE t 0∧sE t 0<8:=hb0
 have hok: ∀i,i<13→vOk t i (vAt t i)=true:=fun i hi=>by
  have:=B7 (t:=(t:Int)) 13 0 hall i hi
  rwa [Nat.zero_add] at this
 have c0: ∀j,(L (dD (t:Int))).cellAt (I 0) j=look (Row.row (sE t 0)) j:=fun j=>aB (i:=0) (vK hl' (by omega))
 have c3: ∀j,(L (dD (t:Int))).cellAt (I 3) j=look (Row.row (sE t 3)) j:=fun j=>aB (i:=3) (vK hl' (by omega))
 have c5: ∀j,(L (dD (t:Int))).cellAt (I 5) j=look (Row.row (sE t 5)) j:=fun j=>aB (i:=5) (vK hl' (by omega))
 have hl2:((dD (t:Int)).length:Int)=8:=by omega
 simp (disch:=first|omega|assumption|(constructor<;>first|assumption|omega)|simp only[LN];omega) only[↓SB,S1,↓ax,c0,c3,c5,hl2]
 refine SUB.v3 (L wN0.marks) (L wN0.topics) (L wN0.peers) ?_ ?_
 ·simp (disch:=first|omega|assumption|(constructor<;>first|assumption|omega)|simp only[LN];omega) only[↓SB,S1,↓ax,e8,e4,and_self]
  rfl
 obtain ⟨q,hq⟩:=Int.eq_ofNat_of_zero_le hb0'.1
 have hq8:q<8:=by omega
 have hpl:wN0.peers.length=8:=rfl
 have htl:wN0.topics.length=4:=rfl
 have hp0:wN0.peers[q]? =some ⟨0,0⟩:=by
  show (List.replicate 8 (⟨0,0⟩:Peer))[q]? =_
  rw[List.getElem?_replicate,if_pos hq8]
 have hp1:(wN0.peers.set q ⟨7,0⟩)[q]? =some ⟨7,0⟩:=by rw[List.getElem?_set_self (by omega)]
 have ht0:wN0.topics[t]? =some bZ:=by
  show (List.replicate 4 bZ)[t]? =_
  rw[List.getElem?_replicate,if_pos ht]
 rw[hq]
 rw[fJ (by omega) (by omega),bt hp0 (j:=0) (v:=I 7) (y:=⟨7,0⟩) rfl,bt hp1 (j:=1) (v:=I 0) (y:=⟨7,0⟩) rfl,List.set_set]
 have hV:vT t=⟨false,false,0,0,(q:Int)+1,(q:Int)+1,0,0,[(q:Int)],[⟨sE t 5,1,3⟩],⟨0,0,0,[],[]⟩,[]⟩:=by unfold vT;rw[hq]
 refine SUB.val [I ((q:Int)+1),I ((q:Int)+1),I (sE t 5),I (sE t 5),L [(q:Int)],L [(⟨sE t 5,1,3⟩:Kid)],I ((q:Int)+1),I ((q:Int)+1),L [(q:Int)],L [(⟨sE t 5,1,3⟩:Kid)],L (wN0.topics.set t (vT t))] rfl ?_ ?_
 ·simp (disch:=first|omega|assumption|(constructor<;>first|assumption|omega)|simp only[LN];omega) only[↓SB,S1,↓ax,c0,c3,c5,↓F4,↓vq]
  rw[B5 ht0 (y:=vT t) (by rw[hV];rfl)]
  exact ⟨rfl,rfl⟩
 simp only[app]
 have hN:vN t=⟨true,1,wN0.peers.set q ⟨7,0⟩,wN0.topics.set t (vT t),[],0,0,wN0.marks,[]⟩:=by unfold vN;rw[hq];rfl
 refine aO.rule (α:=Nat) (fun i=>[.list [],.list [],L wN0.marks,.list [],I (vAt t i).2.1,I (vAt t i).2.2,I i,bb (vAt t i).1.up,I (vAt t i).1.inc,L (vAt t i).1.calls,I (vAt t i).1.pubs,I (vAt t i).1.asks,L (vAt t i).1.marks,L (vAt t i).1.taken,.list [],.list [],L wN0.marks,L (vAt t i).1.peers,L (vAt t i).1.topics]) (fun i=>i≤a+1) (fun i=>a+1-i) 0 (by show _=[.list [],.list [],L wN0.marks,.list [],I 0,I 0,I 0,bb (vN t).up,I (vN t).inc,L (vN t).calls,I (vN t).pubs,I (vN t).asks,L (vN t).marks,L (vN t).taken,.list [],.list [],L wN0.marks,L (vN t).peers,L (vN t).topics];rw[hN];rfl) (by omega) (fun _=>rfl) ?_
 intro i hi
 simp only[app]
 have hk:=hok i (by omega)
 have hnext:vAt t (i+1)=vNx t (vAt t i):=rfl
 simp only[vOk,Bool.and_eq_true,decide_eq_true_eq,Bool.or_eq_true,Bool.not_eq_true'] at hk
 obtain ⟨⟨⟨⟨⟨⟨⟨⟨f1,f2⟩,f3⟩,f4⟩,f5⟩,f6⟩,f7⟩,f8⟩,f9⟩:=hk
 generalize vAt t i=P at f1 f2 f3 f4 f5 f6 f7 f8 f9 hnext ⊢
 obtain ⟨n,lv,jn⟩:=P
 simp only at f1 f2 f3 f4 f5 f6 f7 f8 f9 hnext ⊢
 obtain ⟨x,hx⟩:=aL (xs:=n.topics) (i:=t) (by omega)
 obtain ⟨p,hp⟩:=aL (xs:=n.peers) (i:=q) (by omega)
 have hxd:n.topics.getD t bZ=x:=by simp[List.getD_eq_getElem?_getD,hx]
 have hpd:n.peers.getD q ⟨0,0⟩=p:=by simp[List.getD_eq_getElem?_getD,hp]
 have hlv:lv=(if i≤3 then 0 else 1):=congrArg Prod.fst f8
 have hjn:jn=(if i≤3 then i else 3):=congrArg Prod.snd f8
 have hlv1:lv≤1:=by rw[hlv];split<;>omega
 have hjn1:jn≤3:=by rw[hjn];split<;>omega
 simp (disch:=first|omega|assumption|(constructor<;>first|assumption|omega)|simp only[LN];omega) only[↓SB,S1,↓ax]
 refine ⟨fun h4=>?_,fun h4=>?_⟩
 ·have hH:vH t n=⟨n.up,n.inc,n.peers.set q ⟨p.inc,0⟩,n.topics.set t { x with age:=0 },n.calls,n.pubs,n.asks,n.marks,n.taken⟩:=by
   unfold vH
   rw[hq]
   simp only[Int.toNat_natCast,hxd,hpd]
  have hnx:vNx t (n,lv,jn)=((vW t n).1,vGo (sE t 0) t (vW t n).2.1 (lv,jn)):=rfl
  rw[hnx] at hnext
  obtain ⟨Z,hZ⟩: ∃Z,vW t n=Z:=⟨_,rfl⟩
  rw[hZ] at f2 f3 f4 f5 hnext
  have hT:ew zK (sE t 3) (vH t n)=Z:=hZ
  rw[hH] at hT f1
  obtain ⟨m,ms,er⟩:=Z
  simp only at hnext f2 f3 f4 f5
  subst f2
  have hT':ew ⟨8,4,2,8,8,8,16⟩ (sE t 3) ⟨n.up,n.inc,n.peers.set q ⟨p.inc,0⟩,n.topics.set t { x with age:=0 },n.calls,n.pubs,n.asks,n.marks,n.taken⟩=(m,ms,0):=hT
  rw[bt hp (j:=1) (v:=I 0) (y:=⟨p.inc,0⟩) rfl,bt hx (j:=7) (v:=I 0) (y:={ x with age:=0 }) rfl]
  simp (disch:=first|omega|assumption|(constructor<;>first|assumption|omega)|simp only[LN];omega) only[↓SB,S1,↓ax,c0,c3,c5,hT']
  refine SUB.v1 (bb false) ?_ ?_
  ·simp (disch:=first|omega|assumption|(constructor<;>first|assumption|omega)|simp only[LN];omega) only[↓SB,S1,↓ax]
   simp[f3,f4]
  simp (disch:=first|omega|assumption|(constructor<;>first|assumption|omega)|simp only[LN];omega) only[↓SB,S1,↓ax]
  refine aO.rule (α:=Nat×Nat×Nat) (fun z=>[I z.2.1,I z.2.2,I z.1]) (fun z=>z.1≤ms.length∧z.2.1≤lv+z.1∧z.2.2≤jn+z.1∧vGo (sE t 0) t (ms.drop z.1) z.2=vGo (sE t 0) t ms (lv,jn)) (fun z=>ms.length-z.1) (0,lv,jn) rfl ⟨by simp,by simp,by simp,by simp⟩ (fun _=>rfl) ?_
  rintro ⟨k,u,v⟩ ⟨hk,hu,hv,hs⟩
  simp only at hk hu hv hs
  simp only[app]
  simp (disch:=first|omega|assumption|(constructor<;>first|assumption|omega)|simp only[LN];omega) only[↓SB,S1,↓ax]
  refine ⟨fun h5=>?_,fun h5=>?_⟩
  ·obtain ⟨y,hy⟩:=aL h5
   rw[aT hy,vGo] at hs
   refine SUB.v1 (bb (decide (y.kind=6)&&decide (y.to=q)&&decide (y.toInc=7)&&decide (y.topic=t))) ?_ ?_
   ·simp (disch:=first|omega|assumption|(constructor<;>first|assumption|omega)|simp only[LN];omega) only[↓SB,S1,↓ax,aB hy,c0]
    repeat' (first | apply And.intro | intro _ | simp (disch:=first|omega|assumption|(constructor<;>first|assumption|omega)|simp only[LN];omega) only[↓SB,S1,↓ax,aB hy,c0])
    all_goals simp_all
   refine SUB.v1 (I ((pZ (sE t 0) t y (u,v)).1:Nat)) ?_ ?_
   ·simp (disch:=first|omega|assumption|(constructor<;>first|assumption|omega)|simp only[LN];omega) only[↓SB,S1,↓ax]
    refine ⟨fun h6=>?_,fun h6=>?_⟩
    ·simp only[Bool.and_eq_true,decide_eq_true_eq] at h6
     simp[pZ,hq,h6]
    ·have: ¬(y.kind=6∧y.to=(q:Int)∧y.toInc=7∧y.topic=t):=by
      rintro ⟨z1,z2,z3,z4⟩;simp[z1,z2,z3,z4] at h6
     simp[pZ,hq,this]
   have hst:(pZ (sE t 0) t y (u,v)).1≤u+1:=by unfold pZ;dsimp only;split<;>omega
   have hst2:(pZ (sE t 0) t y (u,v)).2=if y.kind=2∧y.to=(q:Int) then v+1 else v:=by unfold pZ;rw[hq]
   generalize hg:pZ (sE t 0) t y (u,v)=g at hs hst hst2 ⊢
   obtain ⟨g1,g2⟩:=g
   simp only at hs hst hst2
   simp (disch:=first|omega|assumption|(constructor<;>first|assumption|omega)|simp only[LN];omega) only[↓SB,S1,↓ax,aB hy,c0]
   refine ⟨fun h6=>⟨fun h7=>?_,fun h7=>?_⟩,fun h6=>?_⟩
   ·rw[if_pos ⟨h6,h7⟩] at hst2
    rw[hst2] at hs
    exact ⟨(k+1,g1,v+1),by simp,⟨by simp;omega,by simp;omega,by simp;omega,hs⟩,by simp;omega⟩
   ·rw[if_neg (fun h=>h7 h.2)] at hst2
    rw[hst2] at hs
    exact ⟨(k+1,g1,v),by simp,⟨by simp;omega,by simp;omega,by simp;omega,hs⟩,by simp;omega⟩
   ·rw[if_neg (fun h=>h6 h.1)] at hst2
    rw[hst2] at hs
    exact ⟨(k+1,g1,v),by simp,⟨by simp;omega,by simp;omega,by simp;omega,hs⟩,by simp;omega⟩
  ·rw[aQ h5,vGo] at hs
   exact ⟨i+1,by rw[hnext,←hs];simp,by omega,by omega⟩
 ·have hia:i=a+1:=by omega
  subst hia
  refine ⟨fun h5=>?_,fun h5=>?_⟩
  ·have h6:a+1≤3:=by omega
   rw[if_pos h6] at hlv hjn
   subst hlv;subst hjn
   exact ⟨fun _ h=>absurd (by omega) h,fun h=>absurd rfl h⟩
  ·have h6: ¬a+1≤3:=by omega
   rw[if_neg h6] at hlv hjn
   subst hlv;subst hjn
   have h7:x.parent=0:=by
    rcases f9 with h | h
    ·omega
    ·rwa [Int.toNat_natCast,hxd] at h
   simp (disch:=first|omega|assumption|(constructor<;>first|assumption|omega)|simp only[LN];omega) only[↓SB,S1,↓ax,aB hx,h7]
   exact ⟨fun _ h=>absurd rfl h,fun h=>absurd rfl h⟩
end Go.Xt
end
