/- Steps towards the statements of this seat; the conditions stand in each theorem. -/
import Derived.Test.YtahdphncepnbeaaGreatDoorPartW1
section
set_option linter.unusedSimpArgs false
set_option linter.unusedVariables false
set_option maxRecDepth 100000
namespace Go.Xt
set_option linter.defProp false
def xI(self:Int)(y:Topic)(peers:List Peer)(t:Int):List Int :=
 y.kids.map Kid.node++(if 0<y.parent then [y.parent-1] else [])++(if y.kids=[]∧nK y=false∧0≤ij t (ib peers self) self then [ij t (ib peers self) self] else [])
theorem ue(n:Node)(pt:List Int): ∀(a b td:List Int),cF n pt td (a++b)=cF n pt (cF n pt td a) b
 | [],_,_=>rfl
 | x::a,b,td=>by rw[List.cons_append,cF,cF,ue n pt a b]
theorem Rm{n:Node}{x:Int}(h:x<0):ov n x=false:=by
 unfold ov
 have:rng x 0 (n.peers.length-1)=false:=by unfold rng;simp;omega
 rw[this];rfl
theorem Md{n:Node}{pt td:List Int}{x:Int}(h:x<0):cF n pt td [x]=td:=by
 rw[cF,Rm h];rfl
theorem PX{n:Node}{self t:Int}{pt td:List Int}{y:Topic}(hy:be n t=y)(h0:0≤y.parent):cF n pt td (qt self n t)=cF n pt td (xI self y n.peers t):=by
 unfold qt xI
 rw[hy,ue,ue,ue,ue]
 have e1: ∀td,cF n pt td [y.parent-1]=cF n pt td (if 0<y.parent then [y.parent-1] else []):=by
  intro td
  split
  ·rfl
  ·rw[Md (by omega)];rfl
 rw[e1]
 generalize cF n pt (cF n pt td (y.kids.map Kid.node)) (if 0<y.parent then [y.parent-1] else [])=td2
 by_cases h:y.kids=[]∧nK y=false
 ·rw[if_pos h]
  by_cases h2:0≤ij t (ib n.peers self) self
  ·rw[if_pos ⟨h.1,h.2,h2⟩]
  ·rw[if_neg (by rintro ⟨_,_,h3⟩;exact h2 h3),Md (by omega)];rfl
 ·rw[if_neg h,if_neg (by rintro ⟨h1,h2,_⟩;exact h ⟨h1,h2⟩)]
theorem Sy{self t:Int}{y:Topic}{peers:List Peer}(hk: ∀u∈y.kids,0≤u.node)(h0:0≤y.parent): ∀z∈xI self y peers t,0≤z:=by
 intro z hz
 unfold xI at hz
 rcases List.mem_append.1 hz with hz | hz
 ·rcases List.mem_append.1 hz with hz | hz
  ·obtain ⟨u,hu,rfl⟩:=List.mem_map.1 hz;exact hk u hu
  ·split at hz
   ·rw[List.mem_singleton] at hz;omega
   ·simp at hz
 ·split at hz
  ·rename_i h;rw[List.mem_singleton] at hz;rw[hz];exact h.2.2
  ·simp at hz
theorem Rn{self t:Int}{y:Topic}{peers:List Peer}(h:y.kids.length≤8):(xI self y peers t).length≤10:=by
 unfold xI
 rw[List.length_append,List.length_append,List.length_map]
 split<;>split<;>simp<;>omega
theorem Sz{c:Config}{t self:Int}{y:Topic}(h:aS c t self y=true): ∀u∈y.kids,0≤u.node:=by
 have hg: ∀(l:List Kid) (a:Int),ln t a l=true→ ∀u∈l,0≤u.node:=by
  intro l
  induction l with
  | nil=>intro a _ u hu;simp at hu
  | cons k r ih =>
   intro a h u hu
   simp only[ln,fm,Bool.and_eq_true] at h
   rcases List.mem_cons.1 hu with rfl | hu
   ·exact (dk.1 h.1.1.1.1.2).1
   ·exact ih _ h.2 u hu
 simp only[aS,jM,Bool.and_eq_true] at h
 exact hg _ _ h.1.2.2
theorem Ro{l:List Peer}{k:Nat}{p:Peer}(h:bu l=true)(hp:l[k]? =some p):0≤p.inc:=by
 simp only[bu,Bool.and_eq_true,List.all_eq_true] at h
 have:=h.2 p (List.mem_of_getElem? hp)
 simp only[nJ,Bool.and_eq_true] at this
 exact (aZ this.1).1
theorem SA{n:Node}{m:Nat}{p:Peer}(h:n.peers[m]? =some p)(h0:0≤p.inc):ov n m=decide (0<p.inc):=by
 have hl:=(List.getElem?_eq_some_iff.1 h).1
 unfold ov
 have e1:rng m 0 (n.peers.length-1)=true:=by unfold rng;simp;omega
 rw[e1,Int.toNat_natCast,List.getD_eq_getElem?_getD,h,Bool.true_and,Bool.eq_iff_iff]
 simp;omega
theorem Rp{n:Node}{m:Nat}(h: ¬(m:Int)<n.peers.length):ov n m=false:=by
 unfold ov
 have e1:rng m 0 (n.peers.length-1)=false:=by unfold rng;simp;omega
 rw[e1];rfl
theorem P0(b:Int)(h0:0≤b)(h1:b≤41):0<(2:Int) ^ b.toNat∧(2:Int) ^ b.toNat≤2199023255552:=by
 have hb:b.toNat≤41:=by omega
 refine ⟨Int.pow_pos (by decide),?_⟩
 have:=Nat.pow_le_pow_right (n:=2) (by decide) hb
 have h2:((2 ^ b.toNat:Nat):Int)≤((2 ^ 41:Nat):Int):=by exact_mod_cast this
 simpa using h2
def am:=And.intro @oJ (And.intro @ic (And.intro @xl (And.intro @iY (And.intro @xq (And.intro @BV (And.intro @Lh (@zx)))))))
theorem Fa(c:Config)(self:Int)(n:Node)(t:Int)(value:Int)(hp:aU c self n=0∧rng t 0 (c.topics-1)=true∧val value=true)(hg:ag (eS (c,self,n,t,value)).2.1):WW ρ 19 pR eS (c,self,n,t,value):=by
 simp only[eS,RR] at hg ⊢
 unfold pR
 simp only[ag,cj,aV] at hg
 obtain ⟨hw,ht0,hvv⟩:=hp
 generalize hE:aT c self n t value=q
 unfold aT at hE
 rw[if_pos hw,if_pos (by rw[ht0,hvv];rfl)] at hE
 obtain ⟨hc,hsr,hu,H⟩:=dI hw
 have hb:=fa hc
 have hsb:=aZ hsr
 simp (disch:=first|omega|assumption|(constructor<;>first|assumption|omega)|simp only[LN];omega) only[↓SB,S1,↓am]
 refine ⟨fun ha=>?_,fun ha=>?_⟩
 ·rw[if_neg (by omega)] at hE;rw[←hE];rfl
 rw[if_pos (by omega)] at hE
 have hab:=aZ H.asks
 have hpl:=H.pl;have hml:=H.ml;have hkl:=H.kl;have hcl:=H.cl
 have htl:=H.tl
 refine SUB.val [L n.taken,L n.marks,L n.calls,L n.topics,L n.peers] rfl ?_ ?_
 ·simp (disch:=first|omega|assumption|(constructor<;>first|assumption|omega)|simp only[LN];omega) only[↓SB,S1,↓am]
  refine ax.rule (α:=Nat) (fun i=>[I i,L (n.topics.take i)]) (fun i=>i≤n.topics.length) (fun i=>n.topics.length-i) 0 rfl (by omega) (fun _=>rfl) ?_
  intro i hl
  simp only[app]
  simp (disch:=first|omega|assumption|(constructor<;>first|assumption|omega)|simp only[LN];omega) only[↓SB,S1,↓am]
  refine ⟨fun hcc=>?_,fun hcc=>?_⟩
  ·obtain ⟨y,hy⟩:=ak hcc
   have hx9:=Cr hc H hy
   have hlt:(n.topics.take i).length=i:=by simp;omega
   simp (disch:=first|omega|assumption|(constructor<;>first|assumption|omega)|simp only[LN];omega) only[↓SB,S1,↓am,af hy]
   exact ⟨i+1,by simp[xA hy],by omega,by omega⟩
  rw[List.take_of_length_le (by omega)]
 simp only[app]
 simp (disch:=first|omega|assumption|(constructor<;>first|assumption|omega)|simp only[LN];omega) only[↓SB,S1,↓am]
 rw[show L [(⟨n.asks+1,t,0⟩:Kid)]=L [(⟨n.asks+1,t,0⟩:Call)] from rfl]
 simp (disch:=first|omega|assumption|(constructor<;>first|assumption|omega)|simp only[LN];omega) only[↓SB,S1,↓am]
 obtain ⟨s,hk⟩:=Int.eq_ofNat_of_zero_le hsb.1
 subst hk
 obtain ⟨mk,hmk⟩:=ak (xs:=n.marks) (i:=s) (by omega)
 have hmd:n.marks.getD s zp=mk:=by simp[List.getD_eq_getElem?_getD,hmk]
 have hmb:=OW H.marks hmk
 have hml2:jq n.marks s n.inc (n.asks+1)=if meets n.marks s n.inc (n.asks+1)=true then n.marks.set s { kc mk n.inc with met:=(kc mk n.inc).met+2 ^ (n.asks+1).toNat } else n.marks:=by
  unfold jq;rw[Int.toNat_natCast,hmd]
 have hme:meets n.marks s n.inc (n.asks+1)=(decide (mk.inc≤n.inc)&& !oY (kc mk n.inc) (n.asks+1)):=by unfold meets;rw[Int.toNat_natCast,hmd]
 refine SUB.v2 (bb (meets n.marks s n.inc (n.asks+1))) (L (jq n.marks s n.inc (n.asks+1))) ?_ ?_
 ·rw[hml2,hme]
  simp (disch:=first|omega|assumption|(constructor<;>first|assumption|omega)|simp only[LN];omega) only[↓SB,S1,↓am,af hmk]
  refine ⟨fun hgt=>?_,fun hle=>⟨fun hlt=>?_,fun hge=>?_⟩⟩
  ·have e:decide (mk.inc≤n.inc)=false:=by simp;omega
   simp[e]
  ·have e:kc mk n.inc=⟨n.inc,0,0⟩:=by unfold kc;rw[if_pos hlt]
   have hsz:=(List.getElem?_eq_some_iff.1 hmk).1
   have h1:(n.marks.set s ⟨n.inc,mk.pubs,mk.met⟩)[s]? =some ⟨n.inc,mk.pubs,mk.met⟩:=by simp[hsz]
   have h2:((n.marks.set s ⟨n.inc,mk.pubs,mk.met⟩).set s ⟨n.inc,0,mk.met⟩)[s]? =some ⟨n.inc,0,mk.met⟩:=by simp[hsz]
   have h3:(n.marks.set s ⟨n.inc,0,0⟩)[s]? =some ⟨n.inc,0,0⟩:=by simp[hsz]
   rw[bk hmk (y:=⟨n.inc,mk.pubs,mk.met⟩) rfl,bk h1 (y:=⟨n.inc,0,mk.met⟩) rfl,bk h2 (y:=⟨n.inc,0,0⟩) rfl,List.set_set,List.set_set,e]
   simp (disch:=first|omega|assumption|(constructor<;>first|assumption|omega)|simp only[LN];omega) only[↓SB,S1,↓am,af h3]
   have hz:(0:Int) / 2 ^ (n.asks+1).toNat % 2=0:=by simp
   rw[Jm (by omega) (by omega)]
   rw[GY (by simp) (by omega),hz]
   simp (disch:=first|omega|assumption|(constructor<;>first|assumption|omega)|simp only[LN];omega) only[↓SB,S1,↓am]
   rw[yH (by omega) (by omega)]
   have hpw:=P0 (n.asks+1) (by omega) (by omega)
   simp (disch:=first|omega|assumption|(constructor<;>first|assumption|omega)|simp only[LN];omega) only[↓SB,S1,↓am]
   rw[bk h3 (y:=⟨n.inc,0,0+2 ^ (n.asks+1).toNat⟩) rfl,List.set_set]
   have e5:decide (mk.inc≤n.inc)=true:=by simp;omega
   simp[e5,oY]
  ·have e:kc mk n.inc=mk:=by unfold kc;rw[if_neg hge]
   rw[Jm (by omega) (by omega),GY (Int.ediv_nonneg hmb.1 (Int.le_of_lt (Int.pow_pos (by decide)))) (by omega),e]
   simp (disch:=first|omega|assumption|(constructor<;>first|assumption|omega)|simp only[LN];omega) only[↓SB,S1,↓am]
   have e5:decide (mk.inc≤n.inc)=true:=by simp;omega
   refine ⟨fun hm=>by simp[e5,oY,hm],fun hm=>?_⟩
   rw[yH (by omega) (by omega)]
   have hpw:=P0 (n.asks+1) (by omega) (by omega)
   simp (disch:=first|omega|assumption|(constructor<;>first|assumption|omega)|simp only[LN];omega) only[↓SB,S1,↓am]
   rw[bk hmk (y:={ mk with met:=mk.met+2 ^ (n.asks+1).toNat }) rfl]
   simp[e5,oY,hm]
 have hcl2:(n.calls++[(⟨n.asks+1,t,0⟩:Call)]).length≤100:=by simp;omega
 have HD:DoesOk (s:Int) (⟨n.up,n.inc,n.peers,n.topics,n.calls++[⟨n.asks+1,t,0⟩],n.pubs,n.asks+1,jq n.marks s n.inc (n.asks+1),n.taken⟩:Node) t:=OU hc hsr H ht0 rfl rfl hcl2 (by show n.taken.length≤100;omega)
 dsimp only at hE
 have hcb:1≤n.asks+1∧n.asks+1≤40:=by omega
 generalize n.calls++[(⟨n.asks+1,t,0⟩:Call)]=calls at hE HD hcl2 ⊢
 generalize hcnt:n.asks+1=cnt at hE HD hcb ⊢
 generalize jq n.marks s n.inc cnt=marks at hE HD ⊢
 obtain ⟨h1,h2,h3,h4,h5,h6,h7,h8,h9,h10⟩:=HD
 have hbt:=iZ.1 h1
 have hs:=aZ h4
 obtain ⟨k,rfl⟩:=Int.eq_ofNat_of_zero_le hbt.1
 obtain ⟨y,hy⟩:=ak (xs:=n.topics) (i:=k) (by omega)
 have hgd: ∀(a:Bool) (b:Int) (d:List Peer) (e:List Call) (f g:Int) (i:List Mark) (j:List Mark2),be (⟨a,b,d,n.topics,e,f,g,i,j⟩:Node) k=y:=by intros;simp[be,List.getD_eq_getElem?_getD,hy]
 have hbc:(calls.length:Int)≤100:=by have:=h8;dsimp only at this;omega
 rw[hgd] at h5 h6 h7 h10
 dsimp only at h2 h3 h4 h9
 have hty:=qD H.tops hy
 have hqok:=xH hty
 have hkn:=Sz hty
 generalize hr:jO c s (⟨n.up,n.inc,n.peers,n.topics,calls,n.pubs,cnt,marks,n.taken⟩:Node) { lp with topic:=(k:Int),node:=(s:Int),inc:=n.inc,count:=cnt,value:=value }=r at hE
 have hQ:[bb r.1.up,I r.1.inc,L r.1.peers,L r.1.topics,L r.1.calls,I r.1.pubs,I r.1.asks,L r.1.marks,L r.1.taken,L r.2,I cnt,I 0]=[bb q.fst.up,I q.fst.inc,L q.fst.peers,L q.fst.topics,L q.fst.calls,I q.fst.pubs,I q.fst.asks,L q.fst.marks,L q.fst.taken,L q.snd.fst,I q.snd.snd.fst,I q.snd.snd.snd]:=by rw[←hE]
 clear hE
 generalize [bb q.fst.up,I q.fst.inc,L q.fst.peers,L q.fst.topics,L q.fst.calls,I q.fst.pubs,I q.fst.asks,L q.fst.marks,L q.fst.taken,L q.snd.fst,I q.snd.snd.fst,I q.snd.snd.snd]=z at hQ ⊢
 simp only[jO,lp,hgd,List.nil_append] at hr
 have hcn:rng cnt 1 40=true:=by unfold rng;simp;omega
 cases hsub:y.sub
 ·simp (disch:=first|omega|assumption|(constructor<;>first|assumption|omega)|simp only[LN];omega) only[↓SB,S1,↓am,af hy,hsub,List.nil_append]
  simp only[hsub,Bool.false_eq_true,if_false] at hr
  rw[PX (hgd ..) h7] at hr
  refine ax.rule (α:=Nat) (fun i=>[I i,L ((y.kids.take i).map Kid.node)]) (fun i=>i≤y.kids.length) (fun i=>y.kids.length-i) 0 rfl (by omega) (fun _=>rfl) ?_
  intro i hl9
  simp only[app]
  have hlt9:((y.kids.take i).map Kid.node).length≤8:=by simp;omega
  simp (disch:=first|omega|assumption|(constructor<;>first|assumption|omega)|simp only[LN];omega) only[↓SB,S1,↓am]
  refine ⟨fun h=>?_,fun h=>?_⟩
  ·obtain ⟨u,hu1⟩:=ak h
   simp (disch:=first|omega|assumption|(constructor<;>first|assumption|omega)|simp only[LN];omega) only[↓SB,S1,↓am,af hu1]
   refine ⟨i+1,?_,by omega,by omega⟩
   show [PV.int .i64 _,_]=_
   rw[List.take_add_one,hu1];simp
  have hi9:i=y.kids.length:=by omega
  subst hi9
  rw[List.take_length] at hlt9 ⊢
  clear hlt9
  have hkm:(y.kids.map Kid.node).length≤8:=by simp;omega
  refine SUB.v1 (L (y.kids.map Kid.node++(if 0<y.parent then [y.parent-1] else []))) ?_ ?_
  ·simp (disch:=first|omega|assumption|(constructor<;>first|assumption|omega)|simp only[LN];omega) only[↓SB,S1,↓am]
   refine ⟨fun h=>?_,fun h=>?_⟩
   ·rw[if_pos h]
   ·rw[if_neg h,List.append_nil]
  refine SUB.v1 (bb (decide (y.kids=[])&& !nK y)) ?_ ?_
  ·simp (disch:=first|omega|assumption|(constructor<;>first|assumption|omega)|simp only[LN];omega) only[↓SB,S1,↓am]
   refine ⟨fun h=>?_,fun h=>?_⟩
   ·have:y.kids=[]:=List.eq_nil_of_length_eq_zero (by omega)
    simp[this];rfl
   ·have:y.kids≠[]:=by intro h';apply h;rw[h'];rfl
    simp[this]
  have hml9:(y.kids.map Kid.node++(if 0<y.parent then [y.parent-1] else [])).length≤9:=by
   rw[List.length_append];split<;>simp<;>omega
  refine SUB.v1 (L (xI s y n.peers k)) ?_ ?_
  ·unfold xI
   have hpn:n.peers.length≤1000:=by omega
   have hnx:=And.intro h1 (Co h3 hs.1 (by omega))
   generalize (y.kids.map Kid.node++(if 0<y.parent then [y.parent-1] else []))=pre at hml9 ⊢
   cases hka:(decide (y.kids=[])&& !nK y)
   ·rw[if_neg (by rintro ⟨a1,a2,_⟩;rw[a1,a2] at hka;simp at hka),List.append_nil]
    simp (disch:=first|omega|assumption|(constructor<;>first|assumption|omega)|simp only[LN];omega) only[↓SB,S1,↓am]
   ·simp only[Bool.and_eq_true,decide_eq_true_eq,Bool.not_eq_true'] at hka
    simp (disch:=first|omega|assumption|(constructor<;>first|assumption|omega)|simp only[LN];omega) only[↓SB,S1,↓am]
    refine ⟨fun h=>?_,fun h=>?_⟩
    ·rw[if_pos (⟨hka.1,hka.2,h⟩:y.kids=[]∧nK y=false∧_)]
    ·rw[if_neg (by rintro ⟨_,_,h'⟩;exact h h'),List.append_nil]
  have hnn:=Sy (self:=s) (peers:=n.peers) (t:=k) hkn h7
  have hnl:=Rn (self:=s) (peers:=n.peers) (t:=k) h5
  generalize xI s y n.peers k=nl at hnl hnn hr ⊢
  generalize hT:cF (⟨n.up,n.inc,n.peers,n.topics,calls,n.pubs,cnt,marks,n.taken⟩:Node) ([(s:Int)]) [] nl=todo at hr
  refine ax.rule (α:=Nat×List Int) (fun p=>[I p.1,L p.2]) (fun p=>p.1≤nl.length∧p.2.length≤0+p.1∧cF (⟨n.up,n.inc,n.peers,n.topics,calls,n.pubs,cnt,marks,n.taken⟩:Node) ([(s:Int)]) p.2 (nl.drop p.1)=todo) (fun p=>nl.length-p.1) (0,[]) rfl ⟨by simp,by simp<;>omega,by simpa using hT⟩ (fun _=>rfl) ?_
  rintro ⟨i,a⟩ ⟨hi,ha,hs2⟩
  simp only at hi ha hs2
  simp only[app]
  simp (disch:=first|omega|assumption|(constructor<;>first|assumption|omega)|simp only[LN];omega) only[↓SB,S1,↓am]
  refine ⟨fun h=>?_,fun h=>?_⟩
  ·obtain ⟨w,hw⟩:=ak h
   obtain ⟨m,rfl⟩:=Int.eq_ofNat_of_zero_le (hnn w (List.mem_of_getElem? hw))
   rw[ay hw,cF] at hs2
   simp (disch:=first|omega|assumption|(constructor<;>first|assumption|omega)|simp only[LN];omega) only[↓SB,S1,↓am,af hw]
   refine ⟨fun e0=>?_,fun e0=>?_⟩
   ·obtain ⟨p,hp9⟩:=ak (xs:=n.peers) (i:=m) (by omega)
    rw[SA (n:=⟨n.up,n.inc,n.peers,n.topics,calls,n.pubs,cnt,marks,n.taken⟩) hp9 (Ro h3 hp9)] at hs2
    simp (disch:=first|omega|assumption|(constructor<;>first|assumption|omega)|simp only[LN];omega) only[↓SB,S1,↓am,af hp9]
    refine ⟨fun e1=>⟨fun e2=>⟨fun e3=>⟨(i+1,a++[(m:Int)]),rfl,⟨by simp;omega,by simp;omega,?_⟩,by simp;omega⟩,fun e3=>⟨(i+1,a),rfl,⟨by simp;omega,by simp;omega,?_⟩,by simp;omega⟩⟩,fun e2=>⟨(i+1,a),rfl,⟨by simp;omega,by simp;omega,?_⟩,by simp;omega⟩⟩,fun e1=>⟨(i+1,a),rfl,⟨by simp;omega,by simp;omega,?_⟩,by simp;omega⟩⟩
    ·simp only[e1,e2,e3,decide_true,Bool.not_false,Bool.and_self,if_true] at hs2;exact hs2
    ·simp only[e1,e2,e3,decide_true,Bool.not_false,Bool.not_true,Bool.and_false,Bool.false_eq_true,if_false] at hs2;exact hs2
    ·simp only[e1,e2,decide_true,Bool.not_false,Bool.not_true,Bool.and_false,Bool.false_and,Bool.false_eq_true,if_false] at hs2;exact hs2
    ·rw[decide_eq_false e1] at hs2;simp only[Bool.false_and,Bool.false_eq_true,if_false] at hs2;exact hs2
   ·rw[Rp (n:=⟨n.up,n.inc,n.peers,n.topics,calls,n.pubs,cnt,marks,n.taken⟩) e0] at hs2
    exact ⟨(i+1,a),rfl,⟨by simp;omega,by simp;omega,by simpa using hs2⟩,by simp;omega⟩
  rw[ap h,cF] at hs2
  subst hs2
  unfold goN at hr
  refine SUB.v1 (bb (decide (a=[])||decide (16≤(0:Int)))) ?_ ?_
  ·simp (disch:=first|omega|assumption|(constructor<;>first|assumption|omega)|simp only[LN];omega) only[↓SB,S1,↓am]
   refine ⟨fun h=>?_,fun h=>?_⟩
   ·have:a=[]:=List.eq_nil_of_length_eq_zero (by omega)
    simp[this]
   ·have:a≠[]:=by intro h';apply h;rw[h'];rfl
    simp[this]
  by_cases ha0:a=[]
  ·rw[if_pos (.inl ha0)] at hr
   unfold mU at hr
   rw[if_pos rfl] at hr
   dsimp only at hr
   have hd9:(decide (a=[])||decide ((16:Int)≤0))=true:=by rw[ha0];rfl
   simp (disch:=first|omega|assumption|(constructor<;>first|assumption|omega)|simp only[LN];omega) only[↓SB,S1,↓am,hd9]
   have hkd:(4:Int)=3∨(4:Int)=4:=by omega
   have hvE:dL (⟨4,0,0,0,0,cnt⟩:Event)=true:=by simp[dL,hcn]
   have hofs:cT (⟨4,0,0,0,0,cnt⟩:Event)=false:=rfl
   refine ax.rule (α:=Nat) (fun i=>[I i]) (fun i=>i≤calls.length∧(calls.take i).any (bR k cnt)=false) (fun i=>calls.length-i) 0 rfl ⟨by omega,by simp⟩ (fun _=>rfl) ?_
   rintro i ⟨hi3,hs3⟩
   simp only[app]
   simp (disch:=first|omega|assumption|(constructor<;>first|assumption|omega)|simp only[LN];omega) only[↓SB,S1,↓am]
   refine ⟨fun h=>?_,fun h=>?_⟩
   ·obtain ⟨u,hu1⟩:=ak h
    simp (disch:=first|omega|assumption|(constructor<;>first|assumption|omega)|simp only[LN];omega) only[↓SB,S1,↓am,af hu1]
    refine SUB.v1 (bb (bR k cnt u)) ?_ ?_
    ·unfold bR;repeat' (first | apply And.intro | intro _ | simp (disch:=first|omega|assumption|(constructor<;>first|assumption|omega)|simp only[LN];omega) only[↓SB,S1,↓am])
     all_goals simp[*]
    cases hcx:bR k cnt u
    ·simp (disch:=first|omega|assumption|(constructor<;>first|assumption|omega)|simp only[LN];omega) only[↓SB,S1,↓am]
     exact ⟨i+1,rfl,⟨by omega,xG hs3 hu1 hcx⟩,by omega⟩
    ·obtain ⟨e5,e6⟩:=qC hs3 hu1 hcx
     have hl1:(calls.take i).length≤100:=by simp;omega
     have hl2:(calls.drop (i+1)).length≤100:=by simp;omega
     have ei:((i:Int)+1).toNat=i+1:=by omega
     rw[nk (n:=⟨n.up,n.inc,n.peers,n.topics,calls,n.pubs,cnt,marks,n.taken⟩) e6 rfl hy,e5] at hr
     have hpp:y.queue.length≤1000∧2≤c.queue∧c.queue≤32∧_:=⟨by omega,by omega,by omega,hkd⟩
     simp (disch:=first|omega|assumption|(constructor<;>first|assumption|omega)|simp only[LN];omega) only[↓SB,S1,↓am,Int.toNat_natCast,ei,af hy]
     rw[show sD calls i (i+1)=calls.take i++calls.drop (i+1) from rfl] at hr
     rw[show vU cnt (-1)=(⟨4,0,0,0,0,cnt⟩:Event) from rfl,Cv hqok hvE hofs] at hr
     refine ⟨fun hroom=>?_,fun hroom=>?_⟩
     ·rw[if_pos hroom] at hr ⊢
      rw[bk hy (j:=15) (v:=L (y.queue++[(⟨4,0,0,0,0,cnt⟩:Event)])) (y:={ y with queue:=y.queue++[(⟨4,0,0,0,0,cnt⟩:Event)] }) rfl]
      subst hr
      exact hQ
     ·rw[if_neg hroom,show ({ y with queue:=y.queue }:Topic)=y from rfl,M2 hy] at hr
      subst hr
      exact hQ
   ·have hi4:i=calls.length:=by omega
    subst hi4
    rw[List.take_length] at hs3
    rw[nj (n:=⟨n.up,n.inc,n.peers,n.topics,calls,n.pubs,cnt,marks,n.taken⟩) hs3] at hr
    subst hr
    exact hQ
  ·rw[if_neg (by rintro (h | h);exact ha0 h;simp at h)] at hr
   have hane:=ha0
   have hd9:(decide (a=[])||decide ((16:Int)≤0))=false:=by simp[ha0]
   have hpos:0<a.length:=List.length_pos_iff.2 hane
   obtain ⟨j,hj⟩: ∃j,a.length=j+1:=⟨a.length-1,by omega⟩
   have e1:((a.length:Int)-1)=(j:Nat):=by omega
   obtain ⟨w,hw2⟩:=ak (xs:=a) (i:=j) (by omega)
   have e2:a.take j=a.dropLast:=by rw[List.dropLast_eq_take];congr 1;omega
   have e3:a.getLastD 0=w:=by
    rw[List.getLastD_eq_getLast?,List.getLast?_eq_getElem?,hj,Nat.add_sub_cancel,hw2];rfl
   have e4:(a.take j).length≤1000000:=by simp;omega
   simp (disch:=first|omega|assumption|(constructor<;>first|assumption|omega)|simp only[LN];omega) only[↓SB,S1,↓am,hd9,e1,af hw2,Int.toNat_natCast,↓uI]
   rw[e3] at hr
   rw[e2]
   subst hr
   exact hQ
 ·simp only[hsub,if_true] at hr
  unfold mU at hr
  rw[if_pos rfl] at hr
  dsimp only at hr
  have e1:((n.taken++[(⟨s,n.inc,cnt,k,value⟩:Mark2)]).length:Int)≤101:=by simp;omega
  have e2:(max (((n.taken++[(⟨s,n.inc,cnt,k,value⟩:Mark2)]).length:Int)-64) 0).toNat=(n.taken++[(⟨s,n.inc,cnt,k,value⟩:Mark2)]).length-64:=by omega
  have e3:(nL (n.taken++[(⟨s,n.inc,cnt,k,value⟩:Mark2)]) 64).length≤1000000:=by unfold nL;simp;omega
  simp (disch:=first|omega|assumption|(constructor<;>first|assumption|omega)|simp only[LN];omega) only[↓SB,S1,↓am,af hy,hsub]
  rw[e2]
  have hkd:(3:Int)=3∨(3:Int)=4:=by omega
  have hvE:dL (⟨3,0,0,0,s,cnt⟩:Event)=true:=by simp[dL,hcn,isN];omega
  have hofs:cT (⟨3,0,0,0,s,cnt⟩:Event)=false:=rfl
  refine ax.rule (α:=Nat) (fun i=>[I i]) (fun i=>i≤calls.length∧(calls.take i).any (bR k cnt)=false) (fun i=>calls.length-i) 0 rfl ⟨by omega,by simp⟩ (fun _=>rfl) ?_
  rintro i ⟨hi3,hs3⟩
  simp only[app]
  simp (disch:=first|omega|assumption|(constructor<;>first|assumption|omega)|simp only[LN];omega) only[↓SB,S1,↓am]
  refine ⟨fun h=>?_,fun h=>?_⟩
  ·obtain ⟨u,hu1⟩:=ak h
   simp (disch:=first|omega|assumption|(constructor<;>first|assumption|omega)|simp only[LN];omega) only[↓SB,S1,↓am,af hu1]
   refine SUB.v1 (bb (bR k cnt u)) ?_ ?_
   ·unfold bR;repeat' (first | apply And.intro | intro _ | simp (disch:=first|omega|assumption|(constructor<;>first|assumption|omega)|simp only[LN];omega) only[↓SB,S1,↓am])
    all_goals simp[*]
   cases hcx:bR k cnt u
   ·simp (disch:=first|omega|assumption|(constructor<;>first|assumption|omega)|simp only[LN];omega) only[↓SB,S1,↓am]
    exact ⟨i+1,rfl,⟨by omega,xG hs3 hu1 hcx⟩,by omega⟩
   ·obtain ⟨e5,e6⟩:=qC hs3 hu1 hcx
    have hl1:(calls.take i).length≤100:=by simp;omega
    have hl2:(calls.drop (i+1)).length≤100:=by simp;omega
    have ei:((i:Int)+1).toNat=i+1:=by omega
    rw[nk (n:=⟨n.up,n.inc,n.peers,n.topics,calls,n.pubs,cnt,marks,nL (n.taken++[(⟨s,n.inc,cnt,k,value⟩:Mark2)]) 64⟩) e6 rfl hy,e5] at hr
    have hpp:y.queue.length≤1000∧2≤c.queue∧c.queue≤32∧_:=⟨by omega,by omega,by omega,hkd⟩
    simp (disch:=first|omega|assumption|(constructor<;>first|assumption|omega)|simp only[LN];omega) only[↓SB,S1,↓am,Int.toNat_natCast,ei,af hy]
    rw[show sD calls i (i+1)=calls.take i++calls.drop (i+1) from rfl] at hr
    rw[show vU cnt s=(⟨3,0,0,0,s,cnt⟩:Event) from if_pos hs.1,Cv hqok hvE hofs] at hr
    refine ⟨fun hroom=>?_,fun hroom=>?_⟩
    ·rw[if_pos hroom] at hr ⊢
     rw[bk hy (j:=15) (v:=L (y.queue++[(⟨3,0,0,0,s,cnt⟩:Event)])) (y:={ y with queue:=y.queue++[(⟨3,0,0,0,s,cnt⟩:Event)] }) rfl]
     subst hr
     exact hQ
    ·rw[if_neg hroom,show ({ y with queue:=y.queue }:Topic)=y from rfl,M2 hy] at hr
     subst hr
     exact hQ
  ·have hi4:i=calls.length:=by omega
   subst hi4
   rw[List.take_length] at hs3
   rw[nj (n:=⟨n.up,n.inc,n.peers,n.topics,calls,n.pubs,cnt,marks,nL (n.taken++[(⟨s,n.inc,cnt,k,value⟩:Mark2)]) 64⟩) hs3] at hr
   subst hr
   exact hQ
end Go.Xt
end
section
set_option linter.unusedSimpArgs false
set_option linter.unusedVariables false
set_option maxRecDepth 100000
namespace Go.Xt
set_option linter.defProp false
theorem Js(n:Int)(top:Int)(hp:isN n=true∧0≤top∧top≤1073741824):WW ρ 2 s0 iV (n,top):=by
 simp only[iV,RR]
 unfold s0
 obtain ⟨h1,h2,h3⟩:=hp
 have hn:=dk.1 h1
 have e1: ¬top<0:=by omega
 have e2: ¬1073741824<top:=by omega
 have hm:=Int.emod_nonneg top (show (16:Int)≠0 by omega)
 have hm2:=Int.emod_lt_of_pos top (show (0:Int)<16 by omega)
 refine SUB.v1 (bb false) ?_ ?_
 ·simp (disch:=first|omega|assumption|(constructor<;>first|assumption|omega)|simp only[LN];omega) only[↓SB,S1,↓dW,h1,e1,e2]
 generalize hE:ld n top=q
 unfold ld nM at hE
 simp (disch:=first|omega|assumption|(constructor<;>first|assumption|omega)|simp only[LN];omega) only[↓SB,S1,↓dW]
 refine ⟨fun h=>⟨fun h4=>?_,fun h4=>?_⟩,fun h=>⟨fun h4=>?_,fun h4=>?_⟩⟩
 all_goals simp only[h,h4,if_true,if_false] at hE
 all_goals subst hE
 all_goals simp
 all_goals omega
theorem xJ(n:Int)(top:Int)(hp:isN n=true∧0≤top∧top≤1073741824):WW ρ 2 kS cZ (n,top):=by
 simp only[cZ,RR]
 unfold kS
 obtain ⟨h1,h2,h3⟩:=hp
 have hn:=dk.1 h1
 have hm:=Int.emod_nonneg top (show (16:Int)≠0 by omega)
 have hm2:=Int.emod_lt_of_pos top (show (0:Int)<16 by omega)
 generalize hE:ld n top=q
 unfold ld nM at hE
 simp (disch:=first|omega|assumption|(constructor<;>first|assumption|omega)|simp only[LN];omega) only[↓SB,S1]
 refine ⟨fun h=>⟨fun h4=>?_,fun h4=>?_⟩,fun h=>⟨fun h4=>?_,fun h4=>?_⟩⟩
 all_goals simp only[h,h4,if_true,if_false] at hE
 all_goals subst hE
 all_goals simp
theorem Jt(e:Int)(n:Int):WW ρ 2 s4 iW (e,n):=by
 simp only[iW,RR]
 unfold s4;rfl
theorem Fb(epoch:Int)(n:Int):WW ρ 2 pS gP (epoch,n):=by
 simp only[gP,RR]
 unfold pS;rfl
theorem Ju(x:Topic)(hp:ck x=false):WW ρ 16 s5 iX x:=by
 simp only[iX,RR]
 unfold s5;simp (disch:=first|omega|assumption|(constructor<;>first|assumption|omega)|simp only[LN];omega) only[↓SB,S1,↓ic];rfl
theorem xK{c:Config}{t self:Int}{x:Topic}(h:uP c t self x=0):bC c=true∧jp c t self=true∧aS c t self x=true:=by
 unfold uP at h
 split at h
 ·split at h
  ·rename_i h1 h2;rw[Bool.and_eq_true] at h2;exact ⟨h1,h2.1,h2.2⟩
  ·omega
 ·omega
theorem SC{c:Config}{t self:Int}{x:Topic}(h1:bC c=true)(h2:jp c t self=true)(h3:aS c t self x=true):uP c t self x=0:=by
 unfold uP;rw[if_pos h1,if_pos (by simp[h2,h3])]
theorem O5{c:Config}{t self:Int}{x:Topic}(h:aS c t self x=true):0≤x.top∧x.top≤1073741824∧0≤x.age∧x.age≤1000:=by
 simp only[aS,Bool.and_eq_true] at h
 have a:=aZ h.1.1.1.1.1.1.1.1.1;have b:=aZ h.1.1.1.1.1.1.1.1.2;omega
def qd:=And.intro @rf (And.intro @pe (And.intro @Ir (@xt)))
theorem Fc(c:Config)(t:Int)(self:Int)(x:Topic)(hp:uP c t self x=0)(hg:ag (eT (c,t,self,x)).2.1):WW ρ 25 pT eT (c,t,self,x):=by
 simp only[eT,RR] at hg ⊢
 unfold pT
 have hW:(if bC c=true then (if (jp c t self&&aS c t self x)=true then (0:Int) else 1) else 13)=0:=hp
 obtain ⟨h1,h2,h3⟩:=xK hp
 have hl:=oO h1 h3
 have hb:=O5 h3
 have hpl:=xy h1 h2
 have hne:isN self=true∧0≤x.top∧x.top≤1073741824:=⟨hpl.2.1,hb.1,hb.2.1⟩
 generalize hE:ao self x=q
 unfold ao at hE
 simp (disch:=first|omega|assumption|(constructor<;>first|assumption|omega)|simp only[LN];omega) only[↓SB,S1,↓qd,hW]
 refine ⟨fun a=>⟨fun b=>?_,fun b=>?_⟩,fun a=>?_⟩
 ·rw[if_pos ⟨a,b.symm⟩] at hE;subst hE;rfl
 all_goals
  rw[if_neg (by intro h;first | exact h.1 a | exact b h.2.symm)] at hE
  by_cases hz:ld self x.top=0
  ·rw[if_pos hz] at hE;subst hE;simp (disch:=first|omega|assumption|(constructor<;>first|assumption|omega)|simp only[LN];omega) only[↓SB,S1,↓qd,hz];simp[fp,L]
  ·rw[if_neg hz] at hE;subst hE;simp (disch:=first|omega|assumption|(constructor<;>first|assumption|omega)|simp only[LN];omega) only[↓SB,S1,↓qd,hz];first | done | rfl | simp[vc]
def ol:=And.intro @ic (And.intro @xr (And.intro @Is (@vk)))
theorem Cw(self:Int)(x:Topic)(hp:ck x=false∧isN self=true∧0≤x.top∧x.top≤1073741824)(hg:ag (dD (self,x)).2.1):WW ρ 17 oc dD (self,x):=by
 simp only[dD,RR] at hg ⊢
 unfold oc
 obtain ⟨hl,hne⟩:=hp
 generalize hE:ao self x=q
 unfold ao at hE
 have hl2:ck x=false:=hl
 simp (disch:=first|omega|assumption|(constructor<;>first|assumption|omega)|simp only[LN];omega) only[↓SB,S1,↓ol,Topic.eta]
 refine ⟨fun a=>⟨fun b=>?_,fun b=>?_⟩,fun a=>?_⟩
 ·rw[if_pos ⟨a,b⟩] at hE;subst hE;rfl
 all_goals
  rw[if_neg (by intro h;first | exact h.1 a | exact b h.2)] at hE
  by_cases hz:ld self x.top=0
  ·rw[if_pos hz] at hE;subst hE;simp (disch:=first|omega|assumption|(constructor<;>first|assumption|omega)|simp only[LN];omega) only[↓SB,S1,↓ol,hz];simp[fp,L]
  ·rw[if_neg hz] at hE;subst hE;simp (disch:=first|omega|assumption|(constructor<;>first|assumption|omega)|simp only[LN];omega) only[↓SB,S1,↓ol,hz];first | done | rfl | simp[vc]
theorem Aj(m:Msg)(hp:m.path.length≤30∧m.todo.length≤30):WW ρ 16 mN dV m:=by
 simp only[dV,RR]
 unfold mN;simp (disch:=first|omega|assumption|(constructor<;>first|assumption|omega)|simp only[LN];omega) only[↓SB,S1,↓iY]
theorem O6(m:Msg)(hp:m.path.length≤30∧m.todo.length≤30):WW ρ 16 wg lA m:=by
 simp only[lA,RR]
 unfold wg;simp (disch:=first|omega|assumption|(constructor<;>first|assumption|omega)|simp only[LN];omega) only[↓SB,S1,↓gw]
end Go.Xt
end
section
set_option linter.unusedSimpArgs false
set_option linter.unusedVariables false
set_option maxRecDepth 100000
namespace Go.Xt
set_option linter.defProp false
theorem Me{n:Node}{o:Int}(h:ov n o=true): ∃(k:Nat) (p:Peer),o=k∧n.peers[k]? =some p∧p.inc≠0:=by
 simp only[ov,Bool.and_eq_true,decide_eq_true_eq] at h
 have hb:=aZ h.1
 obtain ⟨k,rfl⟩:=Int.eq_ofNat_of_zero_le hb.1
 obtain ⟨p,hp⟩:=ak (xs:=n.peers) (i:=k) (by omega)
 have h2:=h.2
 simp[List.getD_eq_getElem?_getD,hp] at h2
 exact ⟨k,p,rfl,hp,h2⟩
theorem Mf{self:Int}{n:Node}{x:Msg}(h:x.kind=1):tB self n x=⟨x.kind,self,n.inc,x.to,0,x.topic,x.epoch,x.seq,x.last,x.value,x.node,x.inc,x.count,x.hops,x.path,x.todo⟩:=by
 simp[tB,h]
theorem Mg{self:Int}{n:Node}{x:Msg}{k:Nat}{p:Peer}(h: ¬x.kind=1)(hk:x.to=k)(hp:n.peers[k]? =some p):tB self n x=⟨x.kind,self,n.inc,x.to,p.inc,x.topic,x.epoch,x.seq,x.last,x.value,x.node,x.inc,x.count,x.hops,x.path,x.todo⟩:=by
 simp[tB,h,hk,hp,List.getD_eq_getElem?_getD]
def cW:=And.intro @zr (And.intro @Nx (@Lg))
theorem Rq{self:Int}{n:Node}{l:List Msg}(hp:l.length≤1000∧n.peers.length≤12∧ ∀m∈l,m.path.length≤30∧m.todo.length≤30){Q:List PV→Prop}(hQ:Q [L (mi self n l),bb (er self n l).isSome]) :
  oM ρ (I self) (bb n.up) (I n.inc) (L n.peers) (L n.topics) (L n.calls) (I n.pubs) (I n.asks) (L n.marks) (L n.taken) (L l) Q:=by
 unfold oM
 unfold mi at hQ
 obtain ⟨hl,hpl,hm⟩:=hp
 generalize hE:er self n l=q at hQ
 simp (disch:=first|omega|assumption|(constructor<;>first|assumption|omega)|simp only[LN];omega) only[↓SB,S1,↓cW]
 refine ax.rule (α:=Nat×List Msg) (fun p=>[I p.1,L p.2]) (fun p=>p.1≤l.length∧p.2.length≤p.1∧(er self n (l.drop p.1)).map (p.2++ ·)=q) (fun p=>l.length-p.1) (0,[]) rfl ⟨by simp,by simp,by simpa using hE⟩ (fun _=>rfl) ?_
 rintro ⟨i,a⟩ ⟨hi,ha,hs⟩
 simp only at hi ha hs
 simp only[app]
 simp (disch:=first|omega|assumption|(constructor<;>first|assumption|omega)|simp only[LN];omega) only[↓SB,S1,↓cW]
 refine ⟨fun h4=>?_,fun h4=>?_⟩
 ·obtain ⟨x,hx⟩:=ak h4
  have hxm:=hm x (List.mem_of_getElem? hx)
  rw[ay hx,er] at hs
  simp (disch:=first|omega|assumption|(constructor<;>first|assumption|omega)|simp only[LN];omega) only[↓SB,S1,↓cW,af hx]
  refine SUB.v1 (bb (!(decide (x.kind=1)||ov n x.to))) ?_ ?_
  ·repeat' (first | apply And.intro | intro _ | simp (disch:=first|omega|assumption|(constructor<;>first|assumption|omega)|simp only[LN];omega) only[↓SB,S1,↓cW])
   all_goals simp_all
  cases hk:(decide (x.kind=1)||ov n x.to)
  ·rw[if_neg (by rw[hk];simp)] at hs
   simp (disch:=first|omega|assumption|(constructor<;>first|assumption|omega)|simp only[LN];omega) only[↓SB,S1,↓cW]
   exact ⟨(i+1,a),rfl,⟨by simp;omega,by simp;omega,hs⟩,by simp;omega⟩
  rw[if_pos hk] at hs
  simp (disch:=first|omega|assumption|(constructor<;>first|assumption|omega)|simp only[LN];omega) only[↓SB,S1,↓cW]
  refine ⟨fun h5=>?_,fun h5=>?_⟩
  ·have h6:ov n x.to=true:=by simpa[h5] using hk
   obtain ⟨k,p,e1,e2,e3⟩:=Me h6
   have e4:=(List.getElem?_eq_some_iff.1 e2).1
   rw[Mg h5 e1 e2] at hs
   rw[e1] at hs ⊢
   simp (disch:=first|omega|assumption|(constructor<;>first|assumption|omega)|simp only[LN];omega) only[↓SB,S1,↓cW,af e2]
   by_cases h7:gD ⟨x.kind,self,n.inc,(k:Int),p.inc,x.topic,x.epoch,x.seq,x.last,x.value,x.node,x.inc,x.count,x.hops,x.path,x.todo⟩=true
   ·rw[if_pos h7] at hs
    simp (disch:=first|omega|assumption|(constructor<;>first|assumption|omega)|simp only[LN];omega) only[↓SB,S1,↓cW,h7]
    exact ⟨(i+1,a++[⟨x.kind,self,n.inc,(k:Int),p.inc,x.topic,x.epoch,x.seq,x.last,x.value,x.node,x.inc,x.count,x.hops,x.path,x.todo⟩]),rfl,⟨by simp;omega,by simp;omega,by simpa[Function.comp_def] using hs⟩,by simp;omega⟩
   ·rw[if_neg h7] at hs
    simp (disch:=first|omega|assumption|(constructor<;>first|assumption|omega)|simp only[LN];omega) only[↓SB,S1,↓cW,h7]
    subst hs;simpa[L] using hQ
  ·rw[Mf h5] at hs
   by_cases h7:gD ⟨x.kind,self,n.inc,x.to,0,x.topic,x.epoch,x.seq,x.last,x.value,x.node,x.inc,x.count,x.hops,x.path,x.todo⟩=true
   ·rw[if_pos h7] at hs
    simp (disch:=first|omega|assumption|(constructor<;>first|assumption|omega)|simp only[LN];omega) only[↓SB,S1,↓cW,h7]
    exact ⟨(i+1,a++[⟨x.kind,self,n.inc,x.to,0,x.topic,x.epoch,x.seq,x.last,x.value,x.node,x.inc,x.count,x.hops,x.path,x.todo⟩]),rfl,⟨by simp;omega,by simp;omega,by simpa[Function.comp_def] using hs⟩,by simp;omega⟩
   ·rw[if_neg h7] at hs
    simp (disch:=first|omega|assumption|(constructor<;>first|assumption|omega)|simp only[LN];omega) only[↓SB,S1,↓cW,h7]
    subst hs;simpa[L] using hQ
 ·rw[ap h4] at hs
  subst hs;simpa[er] using hQ
theorem Mh(self:Int)(n:Node)(l:List Msg)(hp:l.length≤1000∧n.peers.length≤12∧ ∀m∈l,m.path.length≤30∧m.todo.length≤30)(hg:ag (iB (self,n,l)).2.1):WW ρ 11 oM iB (self,n,l):=by
 simp only[iB,RR] at hg ⊢
 exact Rq hp rfl
def cg:=And.intro @zX (And.intro @vW (@Li))
theorem Fd(self:Int)(n:Node)(l:List Msg)(hp:l.length≤1000∧n.peers.length≤12∧ ∀m∈l,m.path.length≤30∧m.todo.length≤30)(hg:ag (eU (self,n,l)).2.1):WW ρ 11 pU eU (self,n,l):=by
 simp only[eU,RR] at hg ⊢
 unfold pU mi
 obtain ⟨hl,hpl,hm⟩:=hp
 generalize hE:er self n l=q
 refine ax.rule (α:=Nat×List Msg) (fun p=>[I p.1,L p.2]) (fun p=>p.1≤l.length∧p.2.length≤p.1∧(er self n (l.drop p.1)).map (p.2++ ·)=q) (fun p=>l.length-p.1) (0,[]) rfl ⟨by simp,by simp,by simpa using hE⟩ (fun _=>rfl) ?_
 rintro ⟨i,a⟩ ⟨hi,ha,hs⟩
 simp only at hi ha hs
 simp only[app]
 simp (disch:=first|omega|assumption|(constructor<;>first|assumption|omega)|simp only[LN];omega) only[↓SB,S1,↓cg]
 refine ⟨fun h4=>?_,fun h4=>?_⟩
 ·obtain ⟨x,hx⟩:=ak h4
  have hxm:=hm x (List.mem_of_getElem? hx)
  rw[ay hx,er] at hs
  simp (disch:=first|omega|assumption|(constructor<;>first|assumption|omega)|simp only[LN];omega) only[↓SB,S1,↓cg,af hx]
  refine ⟨fun h5=>?_,fun h5=>?_⟩
  ·refine SUB.v1 (bb (!ov n x.to)) ?_ ?_
   ·simp (disch:=first|omega|assumption|(constructor<;>first|assumption|omega)|simp only[LN];omega) only[↓SB,S1,↓cg]
    refine ⟨fun h6=>?_,fun h6=>?_⟩
    ·simp[ov,h6]
    ·have h6':=aZ (show rng x.to 0 (n.peers.length-1)=true by simpa using h6)
     obtain ⟨k,hk⟩:=Int.eq_ofNat_of_zero_le h6'.1
     obtain ⟨p,hp⟩:=ak (xs:=n.peers) (i:=k) (by omega)
     rw[hk] at h6 ⊢
     simp (disch:=first|omega|assumption|(constructor<;>first|assumption|omega)|simp only[LN];omega) only[↓SB,S1,↓cg,af hp]
     simp[ov,rng,hp,List.getD_eq_getElem?_getD]
     intro h9;omega
   cases h6:ov n x.to
   ·rw[if_neg (by simp[h5,h6])] at hs
    simp (disch:=first|omega|assumption|(constructor<;>first|assumption|omega)|simp only[LN];omega) only[↓SB,S1,↓cg]
    exact ⟨(i+1,a),rfl,⟨by simp;omega,by simp;omega,hs⟩,by simp;omega⟩
   rw[if_pos (by simp[h6])] at hs
   obtain ⟨k,p,e1,e2,e3⟩:=Me h6
   have e4:=(List.getElem?_eq_some_iff.1 e2).1
   rw[Mg h5 e1 e2] at hs
   rw[e1] at hs ⊢
   simp (disch:=first|omega|assumption|(constructor<;>first|assumption|omega)|simp only[LN];omega) only[↓SB,S1,↓cg,af e2]
   by_cases h7:gD ⟨x.kind,self,n.inc,(k:Int),p.inc,x.topic,x.epoch,x.seq,x.last,x.value,x.node,x.inc,x.count,x.hops,x.path,x.todo⟩=true
   ·rw[if_pos h7] at hs
    simp (disch:=first|omega|assumption|(constructor<;>first|assumption|omega)|simp only[LN];omega) only[↓SB,S1,↓cg,h7]
    exact ⟨(i+1,a++[⟨x.kind,self,n.inc,(k:Int),p.inc,x.topic,x.epoch,x.seq,x.last,x.value,x.node,x.inc,x.count,x.hops,x.path,x.todo⟩]),rfl,⟨by simp;omega,by simp;omega,by simpa[Function.comp_def] using hs⟩,by simp;omega⟩
   ·rw[if_neg h7] at hs
    simp (disch:=first|omega|assumption|(constructor<;>first|assumption|omega)|simp only[LN];omega) only[↓SB,S1,↓cg,h7]
    subst hs;simp[L]
  ·rw[if_pos (by simp[h5]),Mf h5] at hs
   by_cases h7:gD ⟨x.kind,self,n.inc,x.to,0,x.topic,x.epoch,x.seq,x.last,x.value,x.node,x.inc,x.count,x.hops,x.path,x.todo⟩=true
   ·rw[if_pos h7] at hs
    simp (disch:=first|omega|assumption|(constructor<;>first|assumption|omega)|simp only[LN];omega) only[↓SB,S1,↓cg,h7]
    exact ⟨(i+1,a++[⟨x.kind,self,n.inc,x.to,0,x.topic,x.epoch,x.seq,x.last,x.value,x.node,x.inc,x.count,x.hops,x.path,x.todo⟩]),rfl,⟨by simp;omega,by simp;omega,by simpa[Function.comp_def] using hs⟩,by simp;omega⟩
   ·rw[if_neg h7] at hs
    simp (disch:=first|omega|assumption|(constructor<;>first|assumption|omega)|simp only[LN];omega) only[↓SB,S1,↓cg,h7]
    subst hs;simp[L]
 ·rw[ap h4] at hs
  subst hs;simp[er]
theorem Fe(self:Int)(n:Node)(l:List Msg)(hp:l.length≤1000∧n.peers.length≤12∧ ∀m∈l,m.path.length≤30∧m.todo.length≤30)(hg:ag (eV (self,n,l)).2.1):WW ρ 11 pV eV (self,n,l):=by
 simp only[eV,RR] at hg ⊢
 unfold pV;simp (disch:=first|omega|assumption|(constructor<;>first|assumption|omega)|simp only[LN];omega) only[↓SB,S1,↓vm]
end Go.Xt
end
section
set_option linter.unusedSimpArgs false
set_option linter.unusedVariables false
set_option maxRecDepth 100000
namespace Go.Xt
set_option linter.defProp false
theorem P1{xs:List Topic}{x y:Topic}{i:Nat}{k:PV→Prop}(h:xs[i]? =some x):(OP (.set 0) [L xs,I i,bb y.made] fun w0=>OP (.set 1) [w0,I i,bb y.sub] fun w1=>OP (.set 2) [w1,I i,I y.top] fun w2=>OP (.set 3) [w2,I i,I y.root] fun w3=>OP (.set 4) [w3,I i,I y.parent] fun w4=>OP (.set 5) [w4,I i,I y.asked] fun w5=>OP (.set 6) [w5,I i,I y.other] fun w6=>OP (.set 7) [w6,I i,I y.age] fun w7=>OP (.set 8) [w7,I i,L y.path] fun w8=>OP (.set 9) [w8,I i,L y.kids] fun w9=>OP (.set 10) [w9,I i,I y.stream.epoch] fun w10=>OP (.set 11) [w10,I i,I y.stream.want] fun w11=>OP (.set 12) [w11,I i,I y.stream.known] fun w12=>OP (.set 13) [w12,I i,L y.stream.kept] fun w13=>OP (.set 14) [w13,I i,L y.stream.ahead] fun w14=>OP (.set 15) [w14,I i,L y.queue] fun w15=>k w15)=k (L (xs.set i y)):=by
 have hl:=(List.getElem?_eq_some_iff.1 h).1
 have hg: ∀z:Topic,(xs.set i z)[i]? =some z:=fun z=>by simp[hl]
 obtain ⟨a0,a1,a2,a3,a4,a5,a6,a7,a8,a9,⟨b0,b1,b2,b3,b4⟩,a10⟩:=x
 obtain ⟨c0,c1,c2,c3,c4,c5,c6,c7,c8,c9,⟨d0,d1,d2,d3,d4⟩,c10⟩:=y
 dsimp only
 rw[bk h (j:=0) (v:=bb c0) (y:=(⟨c0,a1,a2,a3,a4,a5,a6,a7,a8,a9,⟨b0,b1,b2,b3,b4⟩,a10⟩:Topic)) rfl]
 rw[bk (hg ⟨c0,a1,a2,a3,a4,a5,a6,a7,a8,a9,⟨b0,b1,b2,b3,b4⟩,a10⟩) (j:=1) (v:=bb c1) (y:=(⟨c0,c1,a2,a3,a4,a5,a6,a7,a8,a9,⟨b0,b1,b2,b3,b4⟩,a10⟩:Topic)) rfl,List.set_set]
 rw[bk (hg ⟨c0,c1,a2,a3,a4,a5,a6,a7,a8,a9,⟨b0,b1,b2,b3,b4⟩,a10⟩) (j:=2) (v:=I c2) (y:=(⟨c0,c1,c2,a3,a4,a5,a6,a7,a8,a9,⟨b0,b1,b2,b3,b4⟩,a10⟩:Topic)) rfl,List.set_set]
 rw[bk (hg ⟨c0,c1,c2,a3,a4,a5,a6,a7,a8,a9,⟨b0,b1,b2,b3,b4⟩,a10⟩) (j:=3) (v:=I c3) (y:=(⟨c0,c1,c2,c3,a4,a5,a6,a7,a8,a9,⟨b0,b1,b2,b3,b4⟩,a10⟩:Topic)) rfl,List.set_set]
 rw[bk (hg ⟨c0,c1,c2,c3,a4,a5,a6,a7,a8,a9,⟨b0,b1,b2,b3,b4⟩,a10⟩) (j:=4) (v:=I c4) (y:=(⟨c0,c1,c2,c3,c4,a5,a6,a7,a8,a9,⟨b0,b1,b2,b3,b4⟩,a10⟩:Topic)) rfl,List.set_set]
 rw[bk (hg ⟨c0,c1,c2,c3,c4,a5,a6,a7,a8,a9,⟨b0,b1,b2,b3,b4⟩,a10⟩) (j:=5) (v:=I c5) (y:=(⟨c0,c1,c2,c3,c4,c5,a6,a7,a8,a9,⟨b0,b1,b2,b3,b4⟩,a10⟩:Topic)) rfl,List.set_set]
 rw[bk (hg ⟨c0,c1,c2,c3,c4,c5,a6,a7,a8,a9,⟨b0,b1,b2,b3,b4⟩,a10⟩) (j:=6) (v:=I c6) (y:=(⟨c0,c1,c2,c3,c4,c5,c6,a7,a8,a9,⟨b0,b1,b2,b3,b4⟩,a10⟩:Topic)) rfl,List.set_set]
 rw[bk (hg ⟨c0,c1,c2,c3,c4,c5,c6,a7,a8,a9,⟨b0,b1,b2,b3,b4⟩,a10⟩) (j:=7) (v:=I c7) (y:=(⟨c0,c1,c2,c3,c4,c5,c6,c7,a8,a9,⟨b0,b1,b2,b3,b4⟩,a10⟩:Topic)) rfl,List.set_set]
 rw[bk (hg ⟨c0,c1,c2,c3,c4,c5,c6,c7,a8,a9,⟨b0,b1,b2,b3,b4⟩,a10⟩) (j:=8) (v:=L c8) (y:=(⟨c0,c1,c2,c3,c4,c5,c6,c7,c8,a9,⟨b0,b1,b2,b3,b4⟩,a10⟩:Topic)) rfl,List.set_set]
 rw[bk (hg ⟨c0,c1,c2,c3,c4,c5,c6,c7,c8,a9,⟨b0,b1,b2,b3,b4⟩,a10⟩) (j:=9) (v:=L c9) (y:=(⟨c0,c1,c2,c3,c4,c5,c6,c7,c8,c9,⟨b0,b1,b2,b3,b4⟩,a10⟩:Topic)) rfl,List.set_set]
 rw[bk (hg ⟨c0,c1,c2,c3,c4,c5,c6,c7,c8,c9,⟨b0,b1,b2,b3,b4⟩,a10⟩) (j:=10) (v:=I d0) (y:=(⟨c0,c1,c2,c3,c4,c5,c6,c7,c8,c9,⟨d0,b1,b2,b3,b4⟩,a10⟩:Topic)) rfl,List.set_set]
 rw[bk (hg ⟨c0,c1,c2,c3,c4,c5,c6,c7,c8,c9,⟨d0,b1,b2,b3,b4⟩,a10⟩) (j:=11) (v:=I d1) (y:=(⟨c0,c1,c2,c3,c4,c5,c6,c7,c8,c9,⟨d0,d1,b2,b3,b4⟩,a10⟩:Topic)) rfl,List.set_set]
 rw[bk (hg ⟨c0,c1,c2,c3,c4,c5,c6,c7,c8,c9,⟨d0,d1,b2,b3,b4⟩,a10⟩) (j:=12) (v:=I d2) (y:=(⟨c0,c1,c2,c3,c4,c5,c6,c7,c8,c9,⟨d0,d1,d2,b3,b4⟩,a10⟩:Topic)) rfl,List.set_set]
 rw[bk (hg ⟨c0,c1,c2,c3,c4,c5,c6,c7,c8,c9,⟨d0,d1,d2,b3,b4⟩,a10⟩) (j:=13) (v:=L d3) (y:=(⟨c0,c1,c2,c3,c4,c5,c6,c7,c8,c9,⟨d0,d1,d2,d3,b4⟩,a10⟩:Topic)) rfl,List.set_set]
 rw[bk (hg ⟨c0,c1,c2,c3,c4,c5,c6,c7,c8,c9,⟨d0,d1,d2,d3,b4⟩,a10⟩) (j:=14) (v:=L d4) (y:=(⟨c0,c1,c2,c3,c4,c5,c6,c7,c8,c9,⟨d0,d1,d2,d3,d4⟩,a10⟩:Topic)) rfl,List.set_set]
 rw[bk (hg ⟨c0,c1,c2,c3,c4,c5,c6,c7,c8,c9,⟨d0,d1,d2,d3,d4⟩,a10⟩) (j:=15) (v:=L c10) (y:=(⟨c0,c1,c2,c3,c4,c5,c6,c7,c8,c9,⟨d0,d1,d2,d3,d4⟩,c10⟩:Topic)) rfl,List.set_set]
structure TOk (c:Config) (t me:Int) (x:Topic):Prop where
 top:rng x.top 0 1073741824=true
 age:rng x.age 0 1000=true
 par:gV t me x.parent=true
 ask:gV t me x.asked=true
 oth:gV t me x.other=true
 root:my me x=true
 plc:mg x=true
 path:chk t me x.path c.depth=0
 kids:jM t me c.kids x.kids=true
 flow:dv c x.stream x.queue=true
theorem lK{c:Config}{t self:Int}{x:Topic}:aS c t self x=true↔TOk c t self x:=by
 simp only[aS,Bool.and_eq_true,decide_eq_true_eq]
 exact ⟨fun ⟨⟨⟨⟨⟨⟨⟨⟨⟨a,b⟩,d⟩,e⟩,f⟩,g⟩,h⟩,i⟩,j⟩,k⟩=>⟨a,b,d,e,f,g,h,i,j,k⟩,fun ⟨a,b,d,e,f,g,h,i,j,k⟩=>⟨⟨⟨⟨⟨⟨⟨⟨⟨a,b⟩,d⟩,e⟩,f⟩,g⟩,h⟩,i⟩,j⟩,k⟩⟩
theorem O7{c:Config}{t self:Int}{x:Topic}(h:aS c t self x=true):aS c t self (vc x)=true:=by
 rw[lK] at h ⊢
 obtain ⟨a,b,d,e,f,g,h,i,j,k⟩:=h
 refine ⟨a,by simp[rng,vc],by simp[gV,vc],by simp[gV,vc],by simp[gV,vc],?_,by simp[mg,vc],?_,j,k⟩
 ·simp only[my,Bool.or_eq_true,Bool.and_eq_true,decide_eq_true_eq] at g ⊢
  rcases g with g | g
  ·exact .inl g
  ·exact .inr ⟨⟨g.1.1,rfl⟩,g.2⟩
 ·show chk t self [] c.depth=0
  unfold chk at i ⊢
  split at i
  ·rename_i h1
   simp only[Bool.and_eq_true] at h1
   rw[if_pos (by simp[h1.1])]
   have hd:=h1.1.1.2
   simp only[decide_eq_true_eq] at hd
   rw[if_neg (by simp;omega)];simp[oD]
  ·omega
def uf:=And.intro @rf (And.intro @ed (And.intro @ee (And.intro @ef (@dH))))
theorem Mi(n:Node)(hp:aI n=false)(hg:ag (iC n).2.1):WW ρ 9 u4 iC n:=by
 simp only[iC,RR] at hg ⊢
 unfold u4
 simp only[ag,cj,aV] at hg
 have hb:=og hp
 simp (disch:=first|omega|assumption|(constructor<;>first|assumption|omega)|simp only[LN];omega) only[↓SB,S1,↓uf]
 refine ax.rule (α:=Nat) (fun i=>[I i,L (n.topics.take i)]) (fun i=>i≤n.topics.length) (fun i=>n.topics.length-i) 0 rfl (by omega) (fun _=>rfl) ?_
 intro i hl
 simp only[app]
 simp (disch:=first|omega|assumption|(constructor<;>first|assumption|omega)|simp only[LN];omega) only[↓SB,S1,↓uf]
 refine ⟨fun hcc=>?_,fun hcc=>?_⟩
 ·obtain ⟨y,hy⟩:=ak hcc
  have hx9:ck y=false:=by simpa using List.any_eq_false.1 hb.2.2.2.2.2 y (List.mem_of_getElem? hy)
  have hlt:(n.topics.take i).length=i:=by simp;omega
  simp (disch:=first|omega|assumption|(constructor<;>first|assumption|omega)|simp only[LN];omega) only[↓SB,S1,↓uf,af hy]
  exact ⟨i+1,by simp[xA hy],by omega,by omega⟩
 rw[List.take_of_length_le (by omega)]
end Go.Xt
end
section
set_option linter.unusedSimpArgs false
set_option linter.unusedVariables false
set_option maxRecDepth 100000
namespace Go.Xt
theorem Mj{self:Int}: ∀(l:List Peer) (i:Int),(jN self i l).length≤l.length
 | [],_=>by simp[jN]
 | p::r,i=>by
  have:=Mj (self:=self) r (i+1)
  rw[jN,List.length_append,List.length_cons];split<;>simp<;>omega
end Go.Xt
end
section
set_option linter.unusedSimpArgs false
set_option linter.unusedVariables false
set_option maxRecDepth 100000
namespace Go.Xt
theorem Rs{t:Int}(ht:isT t=true): ∀(l:List Int) (b:Int),isN b=true→l.all isN=true→fc t b l=xh t b l
 | [],_,_,_=>rfl
 | x::r,b,hb,h=>by
  rw[List.all_cons,Bool.and_eq_true] at h
  have hb2:=dk.1 hb
  rw[fc,xh]
  have hn:fm t x b=decide (gap t x<gap t b):=by simp[fm,ht,hb,h.1]
  rw[hn]
  by_cases hc:gap t x<gap t b
  ·rw[if_pos (by simpa using hc),if_pos (.inr hc)];exact Rs ht r x h.1 h.2
  ·rw[if_neg (by simpa using hc),if_neg (by omega)];exact Rs ht r b hb h.2
theorem SD{t:Int}{l:List Int}(ht:isT t=true)(h:l.all isN=true)(hne:l≠[]):(zm t l).1=vR t l:=by
 unfold zm vR
 rw[if_pos ht,if_pos h]
 cases l with
 | nil=>exact absurd rfl hne
 | cons x r =>
  rw[List.all_cons,Bool.and_eq_true] at h
  show fc t x (x::r)=_
  rw[xh,if_pos (.inl (by omega)),fc,ite_self];exact Rs ht r x h.1 h.2
end Go.Xt
end
section
set_option linter.unusedSimpArgs false
set_option linter.unusedVariables false
set_option maxRecDepth 100000
namespace Go.Xt
set_option maxHeartbeats 4000000
theorem SE{n top:Int}(hn:isN n=true)(h0:0≤top):top<nM n top∧nM n top≤top+16∧nM n top % 16=n:=by
 have h1:=dk.1 hn
 have hm:=Int.emod_nonneg top (show (16:Int)≠0 by omega)
 have hm2:=Int.emod_lt_of_pos top (show (0:Int)<16 by omega)
 unfold nM;split<;>omega
structure Quiet (x y:Topic):Prop where
 made:y.made=x.made
 sub:y.sub=x.sub
 top:x.top≤y.top
 kids:y.kids.length≤x.kids.length
 queue:x.queue.length≤y.queue.length
 str:y.stream=x.stream∨(y.root≠0∧y.root≠x.root)
end Go.Xt
end
section
set_option linter.unusedSimpArgs false
set_option linter.unusedVariables false
set_option maxRecDepth 100000
namespace Go.Xt
theorem Jv{c:Config}{t self:Int}{x:Topic}(hc:bC c=true)(hs:isN self=true)(h:aS c t self x=true):aS c t self (HY self x)=true:=by
 unfold HY
 split
 ·rename_i hz
  unfold ao at hz ⊢
  split
  ·exact h
  ·rename_i hnr
   rw[if_neg hnr] at hz
   split
   ·rename_i hnz;rw[if_pos hnz] at hz;simp at hz
   ·rename_i hnz
    have hb:=O5 h
    have hcb:=fa hc
    obtain ⟨u1,u2,u3⟩:=SE hs hb.1
    have hw:ld self x.top=nM self x.top∧nM self x.top≤1073741824:=by
     unfold ld at hnz ⊢
     by_cases hq:1073741824<nM self x.top
     ·rw[if_pos hq] at hnz;exact absurd rfl hnz
     ·rw[if_neg hq];exact ⟨rfl,by omega⟩
    rw[hw.1]
    generalize nM self x.top=e at u1 u2 u3 hw ⊢
    have hl:=lK.1 (O7 h)
    obtain ⟨a,b,d,e',f,g,i,j,k,l⟩:=hl
    have hep:ep e=true:=by simp only[ep,Bool.and_eq_true];exact ⟨by simp[rng];omega,by rw[u3];exact hs⟩
    refine lK.2 ⟨by simp[rng];omega,b,d,e',f,?_,i,j,k,?_⟩
    ·simp only[my,Bool.or_eq_true,Bool.and_eq_true,decide_eq_true_eq]
     exact .inr ⟨⟨⟨⟨hep,u3⟩,by omega⟩,rfl⟩,rfl⟩
    ·simp only[dv,Bool.and_eq_true] at l ⊢
     refine ⟨?_,l.2⟩
     simp only[jn,ON,fJ,lV,Bool.or_eq_true,Bool.and_eq_true,decide_eq_true_eq]
     exact .inr ⟨⟨⟨⟨hep,by decide⟩,by decide⟩,⟨⟨⟨⟨by decide,by simp[rng];omega⟩,decide_eq_true (by simp;omega)⟩,by simp⟩,rfl⟩⟩,⟨by decide,by simp[rng];omega⟩,rfl⟩
 ·exact h
inductive Pre (c:Config) (me:Int):Msg→Prop
 | ping (i:Int) (h0:0≤i) (h1:i<c.nodes) (h2:i≠me):Pre c me { lp with kind:=1,to:=i }
 | join (t a e:Int) (h0:0≤t) (h1:t<c.topics) (h2:a= -1∨fm t a me=true) (h3:rng e 0 1073741824=true):Pre c me { lp with kind:=2,to:=a,topic:=t,epoch:=e }
 | leave (t a:Int) (h0:0≤t) (h1:t<c.topics) (h2:a= -1∨fm t a me=true):Pre c me { lp with kind:=6,to:=a,topic:=t }
 | nack (t a e s:Int) (h0:0≤t) (h1:t<c.topics) (h2:a= -1∨fm t a me=true) (h3:rng e 1 1073741824=true) (h4:cnt s=true):Pre c me { lp with kind:=8,to:=a,topic:=t,epoch:=e,seq:=s }
structure Out (c:Config) (me:Int) (n:Node) (m:Msg):Prop where
 frm:m.frm=me
 finc:m.fromInc=n.inc
 ne:m.to≠me
 lo:0≤m.to
 hi:m.to<c.nodes
 top:m.topic<c.topics
 kind:m.kind=1∨((m.kind=2∨m.kind=6∨m.kind=8)∧m.toInc=(n.peers.getD m.to.toNat ⟨0,0⟩).inc)
end Go.Xt
end
section
set_option linter.unusedSimpArgs false
set_option linter.unusedVariables false
set_option maxRecDepth 100000
namespace Go.Xt
set_option maxHeartbeats 4000000
end Go.Xt
end
section
set_option linter.unusedSimpArgs false
set_option linter.unusedVariables false
set_option maxRecDepth 100000
namespace Go.Xt
set_option maxHeartbeats 4000000
def own(t:Int)(l:List Int):Int:=(zm t l).1
structure NotOwn (t me nx:Int) (X:Topic):Prop where
 root:X.root=0
 free:BI X=false→X.parent=0∧X.path=[]
 ask0:BI X=true→X.other=0→X.asked=nx+1
 ask1:BI X=true→X.other≠0→X.asked=X.other
end Go.Xt
end
section
set_option linter.unusedSimpArgs false
set_option linter.unusedVariables false
set_option maxRecDepth 100000
namespace Go.Xt
set_option maxHeartbeats 4000000
def lO(j:Int):Int:=(zm j tu).1
def lT(j:Int):Topic:={ fp with made:=true,sub:=true,parent:=lO j+1,asked:=lO j+1,path:=[lO j] }
def l0(j:Int):Node:={ wN0 with peers:=(wN0.peers.set (lO j).toNat ⟨1,0⟩),topics:=wN0.topics.set j.toNat (lT j),asks:=1,calls:=[⟨1,j,0⟩] }
end Go.Xt
end
section
set_option linter.unusedSimpArgs false
set_option linter.unusedVariables false
set_option maxRecDepth 100000
namespace Go.Xt
theorem Cx: ∀(l r:List Item) (n:Int),du n (l++r)=(du n l&&du (n+l.length) r)
 | [],r,n=>by simp[du]
 | x::l,r,n=>by
  simp only[List.cons_append,du,Cx l r,List.length_cons,Bool.and_assoc]
  rw[show n+1+(l.length:Int)=n+((l.length+1:Nat):Int) by omega]
theorem zG: ∀(l:List Item) (n:Int) (k:Nat),du n l=true→du (n+k) (l.drop k)=true
 | [],n,k,h=>by simp[du]
 | x::l,n,0,h=>by simpa using h
 | x::l,n,k+1,h=>by
  simp only[du,Bool.and_eq_true] at h
  have:=zG l (n+1) k h.2
  rw[List.drop_succ_cons,show n+((k+1:Nat):Int)=n+1+k by omega]
  exact this
theorem AF(l:List Item)(want limit v:Int):tC l want limit v=(l++[(⟨want,v⟩:Item)]).drop (l.length+1-limit.toNat):=by
 simp[tC,nL]
theorem Rt(l:List Item)(want limit v:Int):(tC l want limit v).length=l.length+1-(l.length+1-limit.toNat):=by
 rw[AF];simp
theorem SF{l:List Item}{want limit v:Int}(h:fJ l want limit=true)(hv:val v=true)(hw:want<1073741824):fJ (tC l want limit v) (want+1) limit=true:=by
 simp only[fJ,Bool.and_eq_true,decide_eq_true_eq] at h ⊢
 obtain ⟨⟨⟨⟨h1,h2⟩,h3⟩,h4⟩,h5⟩:=h
 have b0:=se h1
 have b1:=aZ h2
 have hl:=Rt l want limit v
 have g:du (want-l.length) (l++[(⟨want,v⟩:Item)])=true:=by
  rw[Cx,h5];simp[du,hv]
 have g2:=zG _ _ (l.length+1-limit.toNat) g
 refine ⟨⟨⟨⟨?_,h2⟩,by omega⟩,by omega⟩,?_⟩
 ·simp[cnt,rng];omega
 ·rw[show want+1-((tC l want limit v).length:Int)=want-l.length+((l.length+1-limit.toNat:Nat):Int) by omega,AF]
  exact g2
theorem Jw{m:Int}: ∀ {l:List Item} {p:Int},hZ m p l=true→ ∀x∈l,p<x.seq∧x.seq<m∧x.seq<1073741824∧val x.value=true
 | [],p,h,x,hx=>by simp at hx
 | y::l,p,h,x,hx=>by
  simp only[hZ,Bool.and_eq_true,decide_eq_true_eq] at h
  obtain ⟨⟨⟨⟨h1,h2⟩,h3⟩,h4⟩,h5⟩:=h
  rcases List.mem_cons.1 hx with rfl | hx
  ·exact ⟨h1,h2,h3,h4⟩
  ·have:=Jw h5 x hx
   exact ⟨by omega,this.2⟩
theorem Mk{m m':Int}(hm:m≤m'): ∀ {l:List Item} {p:Int},hZ m p l=true→hZ m' p l=true
 | [],p,h=>rfl
 | y::l,p,h=>by
  simp only[hZ,Bool.and_eq_true,decide_eq_true_eq] at h ⊢
  exact ⟨⟨⟨⟨h.1.1.1.1,by omega⟩,h.1.1.2⟩,h.1.2⟩,Mk hm h.2⟩
theorem Cy{l:List Item}{want:Int}(h: ∀x∈l,want≤x.seq):tD l want=l:=by
 unfold tD
 rw[List.filter_eq_self]
 intro x hx
 have:=h x hx
 simp;omega
def Jx:Int→List Item→Prop
 | _,[]=>True
 | w,x::r=>x.seq=w∧val x.value=true∧w<1073741824∧Jx (w+1) r
theorem Cz{m:Int}: ∀ {l:List Item} {w:Int},hZ m (w-1) l=true→Jx w (dQ w l)∧hZ m (w-1+(dQ w l).length) (l.drop (dQ w l).length)=true∧(∀x∈(l.drop (dQ w l).length).head?,x.seq≠w+(dQ w l).length)∧(dQ w l).length≤l.length
 | [],w,h=>⟨trivial,rfl,by simp,by simp[dQ]⟩
 | x::r,w,h=>by
  simp only[hZ,Bool.and_eq_true,decide_eq_true_eq] at h
  obtain ⟨⟨⟨⟨h1,h2⟩,h3⟩,h4⟩,h5⟩:=h
  by_cases hx:x.seq=w
  ·have ih:=Cz (l:=r) (w:=w+1) (by rw[show w+1-1=x.seq by omega];exact h5)
   have e:dQ w (x::r)=x::dQ (w+1) r:=by rw[dQ,if_pos hx]
   rw[e]
   refine ⟨⟨hx,h4,by omega,ih.1⟩,?_,?_,?_⟩
   ·rw[List.length_cons,List.drop_succ_cons,show w-1+(((dQ (w+1) r).length+1:Nat):Int)=w+1-1+(dQ (w+1) r).length by omega]
    exact ih.2.1
   ·rw[List.length_cons,List.drop_succ_cons,show w+(((dQ (w+1) r).length+1:Nat):Int)=w+1+(dQ (w+1) r).length by omega]
    exact ih.2.2.1
   ·simp;exact ih.2.2.2
  ·have e:dQ w (x::r)=[]:=by rw[dQ,if_neg hx]
   rw[e]
   refine ⟨trivial,?_,?_,by simp⟩
   ·simp only[List.length_nil,List.drop_zero,hZ,Bool.and_eq_true,decide_eq_true_eq]
    exact ⟨⟨⟨⟨by simpa using h1,h2⟩,h3⟩,h4⟩,h5⟩
   ·simpa using hx
theorem AG: ∀ {l:List Item} {w:Int} {i:Nat} {x:Item},Jx w l→l[i]? =some x→x.seq=w+i∧val x.value=true∧w+i<1073741824
 | [],w,i,x,h,hx=>by simp at hx
 | y::l,w,0,x,h,hx=>by
  simp at hx;subst hx
  exact ⟨by simpa using h.1,h.2.1,by simpa using h.2.2.1⟩
 | y::l,w,i+1,x,h,hx=>by
  have:=AG h.2.2.2 (by simpa using hx)
  exact ⟨by omega,this.2.1,by omega⟩
theorem CA: ∀ {l:List Item} {w:Int} (i:Nat),Jx w l→Jx w (l.take i)
 | [],w,i,h=>by simp[Jx]
 | y::l,w,0,h=>trivial
 | y::l,w,i+1,h=>⟨h.1,h.2.1,h.2.2.1,CA i h.2.2.2⟩
def eg(c:Config)(sub:Bool)(r:Stream×List Event×List Item)(l:List Item):Stream×List Event×List Item:=l.foldl (fun r x=>fF c sub r x.value) r
theorem Gn{c:Config}{sub:Bool}{r:Stream×List Event×List Item}{l:List Item}{i:Nat}{x:Item}(h:l[i]? =some x):eg c sub r (l.take (i+1))=fF c sub (eg c sub r (l.take i)) x.value:=by
 unfold eg;rw[Ch h,List.foldl_append];rfl
structure SInv (c:Config) (s:Stream) (q:List Event):Prop where
 kept:fJ s.kept s.want c.keep=true
 queue:bd q c.queue=true
 ep:ep s.epoch=true
 known:s.want≤s.known∧s.known≤1073741824
theorem Ru{c:Config}{sub:Bool}{r:Stream×List Event×List Item}{v:Int}(h:SInv c r.1 r.2.1)(hv:val v=true)(hw:r.1.want<1073741824):SInv c (fF c sub r v).1 (fF c sub r v).2.1:=by
 refine ⟨SF h.kept hv hw,?_,h.ep,?_⟩
 ·show bd (if sub=true then _ else _) _=true
  split
  ·exact Rg h.queue
  ·exact h.queue
 ·have:=h.known
  show r.1.want+1≤max r.1.known (r.1.want+1)∧max r.1.known (r.1.want+1)≤1073741824
  omega
theorem xL{c:Config}{sub:Bool}: ∀ {l:List Item} {r:Stream×List Event×List Item},Jx r.1.want l→SInv c r.1 r.2.1 →
  SInv c (eg c sub r l).1 (eg c sub r l).2.1∧(eg c sub r l).1.want=r.1.want+l.length∧(eg c sub r l).1.ahead=r.1.ahead∧(eg c sub r l).1.epoch=r.1.epoch∧(eg c sub r l).2.2=r.2.2++l
 | [],r,h,hi=>⟨hi,by simp[eg],rfl,rfl,by simp[eg]⟩
 | x::l,r,h,hi=>by
  have ho:=Ru (sub:=sub) hi h.2.1 (by have:=h.2.2.1;omega)
  have hx:(⟨r.1.want,x.value⟩:Item)=x:=by rw[←h.1]
  have ih:=xL (c:=c) (sub:=sub) (l:=l) (r:=fF c sub r x.value) h.2.2.2 ho
  refine ⟨ih.1,?_,ih.2.2.1,ih.2.2.2.1,?_⟩
  ·have:=ih.2.1
   show _=_
   simp only[List.length_cons]
   have e:(fF c sub r x.value).1.want=r.1.want+1:=rfl
   have e2:eg c sub r (x::l)=eg c sub (fF c sub r x.value) l:=rfl
   rw[e2];omega
  ·have e2:eg c sub r (x::l)=eg c sub (fF c sub r x.value) l:=rfl
   have e3:(fF c sub r x.value).2.2=r.2.2++[⟨r.1.want,x.value⟩]:=rfl
   rw[e2,ih.2.2.2.2,e3,hx];simp
structure FOk (c:Config) (s:Stream) (q:List Event):Prop where
 inv:SInv c s q
 ahd:hZ (s.want+c.window) s.want s.ahead=true
 win:rng c.window 1 16=true
 cw:cnt s.want=true
theorem CB{c:Config}{s:Stream}{q:List Event}(h:dv c s q=true)(he:ep s.epoch=true):FOk c s q:=by
 have e1:s.epoch≠0:=by intro e0;rw[e0] at he;simp[ep,rng] at he
 simp only[dv,jn,Bool.and_eq_true,Bool.or_eq_true] at h
 obtain ⟨h1 | h1,h2⟩:=h
 ·simp[n7,e1] at h1
 ·obtain ⟨⟨⟨⟨h3,h4⟩,h5⟩,h6⟩,h7⟩:=h1
  have:=aZ h5
  simp only[lV,Bool.and_eq_true] at h7
  exact ⟨⟨h6,h2,he,this⟩,h7.2,h7.1.2,h4⟩
theorem FOk.flow{c:Config}{s:Stream}{q:List Event}(h:FOk c s q):dv c s q=true:=by
 simp only[dv,jn,Bool.and_eq_true,Bool.or_eq_true,lV]
 refine ⟨.inr ⟨⟨⟨⟨h.inv.ep,h.cw⟩,?_⟩,h.inv.kept⟩,⟨h.cw,h.win⟩,h.ahd⟩,h.inv.queue⟩
 have:=h.inv.known
 simp[rng];omega
structure ItemOk (c:Config) (s:Stream) (sub:Bool) (q:List Event) (v:Int):Prop where
 still:tD s.ahead (s.want+1)=s.ahead
 one:SInv c (fF c sub (s,q,[]) v).1 (fF c sub (s,q,[]) v).2.1
 seq:Jx (s.want+1) (br s.ahead (s.want+1))
 flow:FOk c (cm c s sub q v).1 (cm c s sub q v).2.1
 len:(br s.ahead (s.want+1)).length≤s.ahead.length
theorem xM{c:Config}{s:Stream}{sub:Bool}{q:List Event}{v:Int}(h:FOk c s q)(hv:val v=true)(hw:s.want<1073741824):ItemOk c s sub q v:=by
 have hb:=Jw h.ahd
 have e1:tD s.ahead (s.want+1)=s.ahead:=Cy fun x hx=>by have:=(hb x hx).1;omega
 have ho:=Ru (c:=c) (sub:=sub) (r:=(s,q,[])) h.inv hv hw
 have hr:=Cz (m:=s.want+c.window) (l:=s.ahead) (w:=s.want+1) (by rw[show s.want+1-1=s.want by omega];exact h.ahd)
 have e2:br s.ahead (s.want+1)=dQ (s.want+1) s.ahead:=by rw[br,e1]
 have e3:qu s.ahead (s.want+1)=s.ahead.drop (dQ (s.want+1) s.ahead).length:=by rw[qu,e1,e2]
 have hf:=xL (c:=c) (sub:=sub) (l:=br s.ahead (s.want+1)) (r:=fF c sub (s,q,[]) v) (by rw[e2];exact hr.1) ho
 refine ⟨e1,ho,by rw[e2];exact hr.1,?_,by rw[e2];exact hr.2.2.2⟩
 have g1:(cm c s sub q v).1={ (eg c sub (fF c sub (s,q,[]) v) (br s.ahead (s.want+1))).1 with ahead:=qu s.ahead (s.want+1) }:=rfl
 have g2:(cm c s sub q v).2=(eg c sub (fF c sub (s,q,[]) v) (br s.ahead (s.want+1))).2:=rfl
 have hw2:(cm c s sub q v).1.want=s.want+1+(dQ (s.want+1) s.ahead).length:=by
  rw[g1];show (eg c sub (fF c sub (s,q,[]) v) (br s.ahead (s.want+1))).1.want=_
  rw[hf.2.1,e2];rfl
 have hwb:=aZ h.win
 have hk:=hf.1.known
 refine ⟨⟨?_,?_,?_,?_⟩,?_,h.win,?_⟩
 ·rw[g1];exact hf.1.kept
 ·rw[g2];exact hf.1.queue
 ·rw[g1];exact hf.1.ep
 ·rw[g1];exact hk
 ·rw[hw2,g1]
  show hZ _ _ (qu s.ahead (s.want+1))=true
  rw[e3]
  have h3:=Mk (m':=s.want+1+((dQ (s.want+1) s.ahead).length:Int)+c.window) (by omega) hr.2.1
  have h4:=hr.2.2.1
  generalize hl:s.ahead.drop (dQ (s.want+1) s.ahead).length=l at h3 h4 ⊢
  cases l with
  | nil=>rfl
  | cons x r =>
   simp only[hZ,Bool.and_eq_true,decide_eq_true_eq] at h3 ⊢
   have h5:=h4 x (by simp)
   exact ⟨⟨⟨⟨by omega,by omega⟩,h3.1.1.2⟩,h3.1.2⟩,h3.2⟩
 ·have hc:=se h.cw
  have hk2:(eg c sub (fF c sub (s,q,[]) v) (br s.ahead (s.want+1))).1.want≤1073741824:=by omega
  rw[hf.2.1,e2] at hk2
  have:(fF c sub (s,q,[]) v).1.want=s.want+1:=rfl
  rw[hw2];simp[cnt,rng];omega
end Go.Xt
end
section
set_option linter.unusedSimpArgs false
set_option linter.unusedVariables false
set_option maxRecDepth 100000
namespace Go.Xt
theorem CC{c:Config}{s:Stream}{sub:Bool}{q:List Event}{v:Int}(h:FOk c s q)(hv:val v=true)(hw:s.want<1073741824) :
  (cm c s sub q v).1.epoch=s.epoch∧(cm c s sub q v).2.2=⟨s.want,v⟩::br s.ahead (s.want+1)∧(cm c s sub q v).1.want=s.want+1+(br s.ahead (s.want+1)).length:=by
 have H:=xM (sub:=sub) h hv hw
 have hf:=xL (c:=c) (sub:=sub) (l:=br s.ahead (s.want+1)) (r:=fF c sub (s,q,[]) v) H.seq H.one
 refine ⟨hf.2.2.2.1,?_,hf.2.1⟩
 have:=hf.2.2.2.2
 rw[show (fF c sub (s,q,[]) v).2.2=[⟨s.want,v⟩] from rfl] at this
 exact this
theorem Ut{n top:Int}(h0:0≤n)(h1:n<16):top<nM n top:=by
 unfold nM
 have:=Int.emod_nonneg top (show (16:Int)≠0 by omega)
 have:=Int.emod_lt_of_pos top (show (0:Int)<16 by omega)
 split<;>omega
structure BOk (c:Config) (t me:Int) (x y:Topic):Prop where
 ok:aS c t me y=true
 root:y.root≠0
 top:y.root=y.top
 le:x.root≤y.root
 ep:ep y.root=true
 epoch:y.stream.epoch=y.root
 flow:FOk c y.stream y.queue
 kids:y.kids=x.kids
 sub:y.sub=x.sub
 queue:y.queue=x.queue
 made:y.made=x.made
theorem yL{c:Config}{t self:Int}{x:Topic}(hw:uP c t self x=0)(h0:(ao self x).2=0):BOk c t self x (ao self x).1:=by
 obtain ⟨hc,hp,ht⟩:=xK hw
 have hpb:=xy hc hp
 have hs:=dk.1 hpb.2.1
 have hB:=Jv hc hpb.2.1 ht
 unfold HY at hB
 rw[if_pos h0] at hB
 have hT:=lK.1 hB
 have hx:=lK.1 ht
 have hd:(ao self x).1.root≠0∧(ao self x).1.root=(ao self x).1.top∧x.root≤(ao self x).1.root∧(ao self x).1.kids=x.kids∧(ao self x).1.sub=x.sub∧(ao self x).1.queue=x.queue∧(ao self x).1.made=x.made:=by
  unfold ao at h0 ⊢
  split
  ·rename_i h;exact ⟨h.1,h.2,Int.le_refl _,rfl,rfl,rfl,rfl⟩
  ·rename_i h
   rw[if_neg h] at h0
   split
   ·rename_i h2;rw[if_pos h2] at h0;simp at h0
   ·rename_i h2
    refine ⟨h2,rfl,?_,rfl,rfl,rfl,rfl⟩
    have hn:ld self x.top=nM self x.top:=by
     unfold ld at h2 ⊢
     split
     ·rename_i h3;rw[if_pos h3] at h2;exact absurd rfl h2
     ·rfl
    have hle:x.root≤x.top:=by
     have hr:=hx.root
     have htb:=aZ hx.top
     simp only[my,Bool.or_eq_true,Bool.and_eq_true,decide_eq_true_eq] at hr
     omega
    have:=Ut (n:=self) (top:=x.top) (by omega) (by omega)
    show x.root≤ld self x.top
    omega
 obtain ⟨d1,d2,d3,d4,d5,d6,d7⟩:=hd
 have hr:=hT.root
 simp only[my,Bool.or_eq_true,Bool.and_eq_true,decide_eq_true_eq] at hr
 rcases hr with hr | hr
 ·exact absurd hr d1
 ·obtain ⟨⟨⟨⟨h1,h2⟩,h3⟩,h4⟩,h5⟩:=hr
  exact ⟨hB,d1,d2,d3,h1,h5,CB hT.flow (by rw[h5];exact h1),d4,d5,d6,d7⟩
theorem O8{c:Config}{t self:Int}{y:Topic}{s:Stream}{q:List Event}(h:aS c t self y=true)(hf:FOk c s q)(he:s.epoch=y.stream.epoch):aS c t self { y with stream:=s,queue:=q }=true:=by
 rw[lK] at h ⊢
 refine ⟨h.top,h.age,h.par,h.ask,h.oth,?_,h.plc,h.path,h.kids,hf.flow⟩
 have:=h.root
 simp only[my,he] at this ⊢
 exact this
structure AOk (c:Config) (t me:Int) (x:Topic) (v:Int) (y:Topic):Prop where
 B:BOk c t me x y
 want:y.stream.want<1073741823
 item:FOk c (cm c y.stream y.sub y.queue v).1 (cm c y.stream y.sub y.queue v).2.1
 ok:aS c t me { y with stream:=(cm c y.stream y.sub y.queue v).1,queue:=(cm c y.stream y.sub y.queue v).2.1 }=true
 eq:au c t me x v=({ y with stream:=(cm c y.stream y.sub y.queue v).1,queue:=(cm c y.stream y.sub y.queue v).2.1 },jr t { y with stream:=(cm c y.stream y.sub y.queue v).1,queue:=(cm c y.stream y.sub y.queue v).2.1 } (cm c y.stream y.sub y.queue v).2.2,0)
theorem Gp{c:Config}{t self:Int}{x:Topic}{v:Int}(hw:uP c t self x=0)(hv:val v=true)(h0:(au c t self x v).2.2=0):AOk c t self x v (ao self x).1:=by
 unfold au at h0
 by_cases h1:(ao self x).2≠0
 ·rw[if_pos h1] at h0;exact absurd h0 h1
 rw[if_neg h1] at h0
 by_cases h2:1073741823≤(ao self x).1.stream.want
 ·rw[if_pos h2] at h0;simp at h0
 have hB:=yL hw (by simpa using h1)
 have hI:=xM (sub:=(ao self x).1.sub) hB.flow hv (by omega)
 have hE:=CC (sub:=(ao self x).1.sub) hB.flow hv (by omega)
 refine ⟨hB,by omega,hI.flow,O8 hB.ok hI.flow hE.1,?_⟩
 unfold au
 rw[if_neg h1,if_neg h2]
theorem xN{c:Config}{t self:Int}{x:Topic}(h:aS c t self x=true):x.kids.length≤4:=by
 have hk:=(lK.1 h).kids
 simp only[jM,Bool.and_eq_true,decide_eq_true_eq] at hk
 have:=aZ hk.1.1.2
 omega
def oP(t:Int)(x:Topic)(i:Item)(k:Kid):Msg:={ lp with kind:=7,to:=k.node,topic:=t,epoch:=x.stream.epoch,seq:=i.seq,value:=i.value }
theorem Gq{t:Int}{x:Topic}{on:List Item}{i:Nat}{y:Item}(h:on[i]? =some y):jr t x (on.take (i+1))=jr t x (on.take i)++x.kids.map (oP t x y):=by
 unfold jr;rw[Ch h,List.flatMap_append];simp[oP]
theorem xO(t:Int)(x:Topic): ∀(on:List Item),(jr t x on).length=on.length*x.kids.length
 | []=>by simp[jr]
 | y::r=>by
  have ih:=xO t x r
  unfold jr at ih ⊢
  rw[List.flatMap_cons,List.length_append,ih,List.length_map,List.length_cons,Nat.succ_mul];omega
theorem yM{t:Int}{x:Topic}{on:List Item}{m:Msg}(h:m∈jr t x on):m.path=[]∧m.todo=[]∧m.kind=7∧m.topic=t:=by
 unfold jr at h
 obtain ⟨i,_,h⟩:=List.mem_flatMap.1 h
 obtain ⟨k,_,rfl⟩:=List.mem_map.1 h
 exact ⟨rfl,rfl,rfl,rfl⟩
end Go.Xt
end
section
set_option linter.unusedSimpArgs false
set_option linter.unusedVariables false
set_option maxRecDepth 100000
namespace Go.Xt
theorem lL{c:Config}{self:Int}{n:Node}{t:Int}(h:bm c self n t=0):aU c self n=0∧rng t 0 (c.topics-1)=true:=by
 unfold bm at h
 split at h
 ·rename_i h1
  split at h
  ·rename_i h2;exact ⟨h1,h2⟩
  ·omega
 ·rename_i h1;exact absurd h h1
theorem ug{c:Config}{self:Int}{n:Node}{t:Int}(h1:aU c self n=0)(h2:rng t 0 (c.topics-1)=true):bm c self n t=0:=by
 unfold bm;rw[if_pos h1,if_pos h2]
theorem yN{c:Config}{self:Int}{n:Node}{t:Int}(h:aJ c self n t=0):aU c self n=0∧rng t 0 (c.topics-1)=true∧(be n t).made=true:=by
 unfold aJ at h
 split at h
 ·rename_i h1
  split at h
  ·rename_i h2;exact ⟨(lL h1).1,(lL h1).2,h2⟩
  ·omega
 ·rename_i h1;exact absurd h h1
theorem wm{c:Config}{self:Int}{n:Node}{t:Int}(h1:aU c self n=0)(h2:rng t 0 (c.topics-1)=true)(h3:(be n t).made=true):aJ c self n t=0:=by
 unfold aJ;rw[if_pos (ug h1 h2),if_pos h3]
theorem Gr{c:Config}{self:Int}{n:Node}{t:Int}(h1:aU c self n=0)(h2:rng t 0 (c.topics-1)=true)(h3:(be n t).made=false):aJ c self n t=7:=by
 unfold aJ;rw[if_pos (ug h1 h2),if_neg (by rw[h3];simp)]
structure AtOk (c:Config) (me:Int) (n:Node) (k:Nat) (x:Topic):Prop where
 get:n.topics[k]? =some x
 ok:aS c k me x=true
 at_:be n k=x
 lt:k<n.topics.length
theorem uh{c:Config}{self:Int}{n:Node}{t:Int}(h1:aU c self n=0)(h2:rng t 0 (c.topics-1)=true): ∃(k:Nat) (x:Topic),t=k∧AtOk c self n k x:=by
 obtain ⟨hc,hs,hu,H⟩:=dI h1
 have hb:=aZ h2
 have htl:=H.tl
 obtain ⟨k,rfl⟩:=Int.eq_ofNat_of_zero_le hb.1
 obtain ⟨x,hx⟩:=ak (xs:=n.topics) (i:=k) (by omega)
 exact ⟨k,x,rfl,hx,by simpa using qD H.tops hx,by simp[be,List.getD_eq_getElem?_getD,hx],by omega⟩
theorem O9{n:Node}{k:Nat}{x:Topic}(h:k<n.topics.length):be (cA n k x) k=x:=by
 simp[be,cA,List.getD_eq_getElem?_getD,h]
theorem Ml(n:Node)(t:Int)(x y:Topic):cA (cA n t x) t y=cA n t y:=by
 simp[cA]
theorem Oa{n:Node}{k:Nat}{x:Topic}(h:n.topics[k]? =some x):cA n k x=n:=by
 unfold cA
 have:n.topics.set k x=n.topics:=by
  obtain ⟨h1,h2⟩:=List.getElem?_eq_some_iff.1 h
  rw[←h2];exact List.set_getElem_self h1
 rw[Int.toNat_natCast,this]
theorem Mm{c:Config}{self:Int}{n:Node}{k:Nat}{x:Topic}(h:aU c self n=0)(hk:k<n.topics.length)(hx:aS c k self x=true):aU c self (cA n k x)=0:=by
 obtain ⟨hc,hs,hu,H⟩:=dI h
 exact NZ hc hs hu ⟨H.inc,H.pubs,H.asks,H.calls,H.cl,H.pl,by rw[←H.tl];simp[cA],H.ml,H.kl,Cq H.tops (by simpa using hx),H.peers,H.marks,H.taken⟩
theorem Ob{x:Event}{l:List Event}{limit:Int}(h:bd (x::l) limit=true):bd l limit=true:=by
 rw[mq] at h ⊢
 obtain ⟨h1,h2,h3,h4⟩:=h
 simp only[List.length_cons] at h2
 rw[List.all_cons,Bool.and_eq_true] at h3
 exact ⟨h1,by omega,h3.2,.inl (by omega)⟩
theorem CD{c:Config}{self:Int}(hc:bC c=true): ∀(l:List Topic) (t:Int),bx c self t l=true→l.any ck=false
 | [],_,_=>rfl
 | x::r,t,h=>by
  rw[bx,Bool.and_eq_true] at h
  rw[List.any_cons,oO hc h.1,CD hc r (t+1) h.2];rfl
theorem Gs{c:Config}{self:Int}{n:Node}(h:aU c self n=0):aI n=false:=by
 obtain ⟨hc,hs,hu,H⟩:=dI h
 have hb:=fa hc
 have h1:=H.pl;have h2:=H.tl;have h3:=H.ml;have h4:=H.cl;have h5:=H.kl
 unfold aI
 rw[CD hc _ _ H.tops]
 simp;omega
theorem P2{c:Config}{self:Int}{n:Node}{t:Int}{sub:Bool}{why:Int}(h1:aJ c self n t=0)(h2: ¬(be n t).sub=sub):fG c self n t sub why=(cA n t { be n t with sub:=sub,queue:=[] },0):=by
 unfold fG;rw[if_pos h1,if_neg h2]
theorem P3{c:Config}{self:Int}{n:Node}{t:Int}{sub:Bool}{why:Int}(h1:aJ c self n t=0)(h2:(be n t).sub=sub):fG c self n t sub why=(bi,why):=by
 unfold fG;rw[if_pos h1,if_pos h2]
theorem P4{c:Config}{self:Int}{n:Node}{t:Int}{sub:Bool}{why:Int}(h1: ¬aJ c self n t=0):fG c self n t sub why=(bi,aJ c self n t):=by
 unfold fG;rw[if_neg h1]
theorem Gt{c:Config}{self:Int}{n:Node}{t:Int}{x:Event}{r:List Event}(h1:aJ c self n t=0)(h2:(be n t).queue=x::r):ke c self n t=(cA n t { be n t with queue:=r },x,0):=by
 unfold ke;rw[if_pos h1,h2]
theorem Mn{c:Config}{self:Int}{n:Node}{t:Int}(h1:aJ c self n t=0)(h2:(be n t).queue=[]):ke c self n t=(bi,dw,10):=by
 unfold ke;rw[if_pos h1,h2]
theorem P5{c:Config}{self:Int}{n:Node}{t:Int}(h1: ¬aJ c self n t=0):ke c self n t=(bi,dw,aJ c self n t):=by
 unfold ke;rw[if_neg h1]
theorem Oc{c:Config}{self:Int}{n:Node}{k:Nat}{x:Topic}(h:aU c self n=0)(A:AtOk c self n k x)(hm:x.made=true): ∀(i:Nat),i≤x.queue.length →
  aU c self (cA n k { x with queue:=x.queue.drop i })=0∧bd (x.queue.drop i) c.queue=true∧rng (k:Int) 0 (c.topics-1)=true∧aJ c self (cA n k { x with queue:=x.queue.drop i }) k=0
 | i,hi=>by
  have hq: ∀(j:Nat) (l:List Event),bd l c.queue=true→bd (l.drop j) c.queue=true:=by
   intro j
   induction j with
   | zero=>intro l h;simpa using h
   | succ j ih =>
    intro l h
    cases l with
    | nil=>simpa using h
    | cons y r=>rw[List.drop_succ_cons];exact ih r (Ob h)
  have h1:=hq i x.queue (xH A.ok)
  obtain ⟨hc,hs,hu,H⟩:=dI h
  have hlt:=A.lt
  have htl:=H.tl
  have h2:rng (k:Int) 0 (c.topics-1)=true:=by simp[rng];omega
  have h3:=Mm h A.lt (zE A.ok h1)
  exact ⟨h3,h1,h2,wm h3 h2 (by rw[O9 A.lt];exact hm)⟩
theorem SG{c:Config}{self:Int}{n:Node}(h:aU c self n=0)(hp:n.pubs<1073741824):aU c self { n with pubs:=n.pubs+1 }=0:=by
 obtain ⟨hc,hs,hu,H⟩:=dI h
 have:=aZ H.pubs
 exact NZ hc hs hu ⟨H.inc,by simp[rng];omega,H.asks,H.calls,H.cl,H.pl,H.tl,H.ml,H.kl,H.tops,H.peers,H.marks,H.taken⟩
end Go.Xt
end
section
set_option linter.unusedSimpArgs false
set_option linter.unusedVariables false
set_option maxRecDepth 100000
namespace Go.Xt
set_option linter.defProp false
set_option maxHeartbeats 4000000
theorem Mo{l:List Item}{want limit:Int}(h:fJ l want limit=true):1≤limit∧limit≤16∧(l.length:Int)≤limit∧1≤want:=by
 simp only[fJ,Bool.and_eq_true,decide_eq_true_eq] at h
 have:=aZ h.1.1.1.2
 have:=se h.1.1.1.1
 omega
def ui:=And.intro @cb (And.intro @aA (@xm))
theorem Mp(l:List Item)(want:Int)(limit:Int)(value:Int)(hp:fJ l want limit=true∧val value=true∧want<1073741824)(hg:ag (iD (l,want,limit,value)).2.1):WW ρ 4 u5 iD (l,want,limit,value):=by
 simp only[iD,RR] at hg ⊢
 unfold u5
 obtain ⟨h1,h2,h3⟩:=hp
 generalize hE:tC l want limit value=q
 rw[AF] at hE
 have hk:=Mo h1
 simp (disch:=first|omega|assumption|(constructor<;>first|assumption|omega)|simp only[LN];omega) only[↓SB,S1,↓ui,h1,h2,↓da (a_seq:=want)]
 refine SUB.v1 (bb false) ?_ ?_
 ·simp (disch:=first|omega|assumption|(constructor<;>first|assumption|omega)|simp only[LN];omega) only[↓SB,S1,↓ui,h1,h2]
 have hl:(l++[(⟨want,value⟩:Item)]).length=l.length+1:=by simp
 have hx:(max (((l++[(⟨want,value⟩:Item)]).length:Int)-limit) 0).toNat=l.length+1-limit.toNat:=by omega
 have hq:q.length≤1000000:=by rw[←hE];simp;omega
 rw[hx,hE]
 simp (disch:=first|omega|assumption|(constructor<;>first|assumption|omega)|simp only[LN];omega) only[↓SB,S1,↓ui]
 exact fun h=>absurd h (by omega)
theorem Jy(l:List Event)(hp:l.length≤1000000)(hg:ag (gp l).2.1):WW ρ 1 s7 gp l:=by
 simp only[gp,RR] at hg ⊢
 unfold s7
 simp only[ag,aV] at hg
 cases l with
 | nil=>simp (disch:=first|omega|assumption|(constructor<;>first|assumption|omega)|simp only[LN];omega) only[↓SB,S1,↓aG];simp[dw,L]
 | cons x r =>
  have h0:(x::r)[0]? =some x:=rfl
  have hc: ∀j,(L (x::r)).cellAt (I 0) j=look (Row.row x) j:=fun j=>af (i:=0) h0
  have e1:List.drop (Int.toNat 1) (x::r)=r:=rfl
  have hr:r.length≤1000000:=by simp at hp;omega
  simp (disch:=first|omega|assumption|(constructor<;>first|assumption|omega)|simp only[LN];omega) only[↓SB,S1,↓aG,hc]
  refine ⟨fun h=>absurd h (by simp;omega),fun _=>?_⟩
  rw[e1]
  simp (disch:=first|omega|assumption|(constructor<;>first|assumption|omega)|simp only[LN];omega) only[↓SB,S1,↓aG]
  rfl
def Mq:=And.intro @I4 (@zt)
theorem Mr(self:Int)(n:Node)(t:Int)(hp:bu n.peers=true∧rng self 0 (n.peers.length-1)=true∧isT t=true)(hg:ag (iG (self,n,t)).2.1):WW ρ 11 u9 iG (self,n,t):=by
 simp only[iG,RR] at hg ⊢
 unfold u9
 obtain ⟨h1,h2,h3⟩:=hp
 have hb:=qB h1
 have hr:=aZ h2
 have hpl:oX n.peers self=0:=by unfold oX;rw[if_pos h1,if_pos (by omega)]
 simp (disch:=first|omega|assumption|(constructor<;>first|assumption|omega)|simp only[LN];omega) only[↓SB,S1,↓Mq,hpl]
 rfl
theorem Ms(t:Int)(x:Topic)(on:List Item)(hp:on.length≤1000∧x.kids.length≤1000)(hg:ag (iF (t,x,on)).2.1):WW ρ 18 u7 iF (t,x,on):=by
 simp only[iF,RR] at hg ⊢
 unfold u7
 obtain ⟨h1,h2⟩:=hp
 simp (disch:=first|omega|assumption|(constructor<;>first|assumption|omega)|simp only[LN];omega) only[↓SB,S1]
 have hmul: ∀i,i≤on.length→(jr t x (on.take i)).length≤1000000:=by
  intro i hi
  rw[xO]
  have a:(on.take i).length≤1000:=by simp;omega
  exact Nat.le_trans (Nat.mul_le_mul a h2) (by decide)
 refine ax.rule (α:=Nat) (fun i=>[I i,L (jr t x (on.take i))]) (fun i=>i≤on.length) (fun i=>on.length-i) 0 rfl (by omega) (fun _=>rfl) ?_
 intro i hi
 simp only[app]
 simp (disch:=first|omega|assumption|(constructor<;>first|assumption|omega)|simp only[LN];omega) only[↓SB,S1]
 refine ⟨fun h4=>?_,fun h4=>?_⟩
 ·obtain ⟨y,hy⟩:=ak h4
  have hs:=Gq (t:=t) (x:=x) hy
  have hm:=hmul i hi
  simp (disch:=first|omega|assumption|(constructor<;>first|assumption|omega)|simp only[LN];omega) only[↓SB,S1,af hy]
  refine ax.rule (α:=Nat) (fun k=>[I k,L (jr t x (on.take i)++(x.kids.take k).map (oP t x y))]) (fun k=>k≤x.kids.length) (fun k=>x.kids.length-k) 0 (by simp) (by omega) (fun _=>rfl) ?_
  intro k hk
  simp only[app]
  simp (disch:=first|omega|assumption|(constructor<;>first|assumption|omega)|simp only[LN];omega) only[↓SB,S1]
  refine ⟨fun h5=>?_,fun h5=>?_⟩
  ·obtain ⟨z,hz⟩:=ak h5
   have hlk:((x.kids.take k).map (oP t x y)).length≤1000:=by simp;omega
   simp (disch:=first|omega|assumption|(constructor<;>first|assumption|omega)|simp only[LN];omega) only[↓SB,S1,af hz,↓sl]
   exact ⟨k+1,by rw[Ch hz];simp[oP,lp],by omega,by omega⟩
  ·have hke:k=x.kids.length:=by omega
   subst hke
   exact ⟨i+1,by rw[hs];simp,by omega,by omega⟩
 ·have:i=on.length:=by omega
  subst this
  simp
end Go.Xt
end
section
set_option linter.unusedSimpArgs false
set_option linter.unusedVariables false
set_option maxRecDepth 100000
namespace Go.Xt
set_option linter.defProp false
set_option maxHeartbeats 4000000
theorem PY{l:List Item}{want limit:Int}(h:fJ l want limit=true):l.length≤16:=by have:=Mo h;omega
theorem CF{c:Config}{s:Stream}{q:List Event}(h:FOk c s q):s.ahead.length≤16:=by
 have:=J9 _ _ h.ahd
 have:=aZ h.win
 omega
theorem Jz{c:Config}{s:Stream}{q:List Event}(h:SInv c s q):s.kept.length≤16∧q.length≤32:=by
 have h1:=PY h.kept
 have h2:=lJ h.queue
 omega
structure RunAt (c:Config) (s:Stream) (sub:Bool) (q:List Event) (v:Int) (i:Nat) (r:Stream×List Event×List Item):Prop where
 inv:SInv c r.1 r.2.1
 want:r.1.want=s.want+1+i
 epoch:r.1.epoch=s.epoch
 on:r.2.2.length=i+1
 eq:eg c sub (fF c sub (s,q,[]) v) ((br s.ahead (s.want+1)).take i)=r
theorem TS{c:Config}{s:Stream}{sub:Bool}{q:List Event}{v:Int}(H:ItemOk c s sub q v){i:Nat}(hi:i≤(br s.ahead (s.want+1)).length) :
  RunAt c s sub q v i (eg c sub (fF c sub (s,q,[]) v) ((br s.ahead (s.want+1)).take i)):=by
 have hf:=xL (c:=c) (sub:=sub) (l:=(br s.ahead (s.want+1)).take i) (r:=fF c sub (s,q,[]) v) (CA i H.seq) H.one
 obtain ⟨h1,h2,h3,h4,h5⟩:=hf
 have hl:((br s.ahead (s.want+1)).take i).length=i:=by rw[List.length_take];omega
 refine ⟨h1,?_,?_,?_,rfl⟩
 ·rw[h2,hl];rfl
 ·rw[h4];rfl
 ·rw[h5,List.length_append,hl];show 1+i=i+1;omega
def bw:=And.intro @cb (And.intro @aG (And.intro @zq (And.intro @xt (And.intro @jx (And.intro @Lp (And.intro @aA (And.intro @xn (And.intro @Lj (@It)))))))))
theorem Mt(c:Config)(s:Stream)(sub:Bool)(q:List Event)(at_:Int)(x:Item)(hp:bC c=true∧dv c s q=true∧at_=s.epoch∧ep at_=true∧x.seq=s.want∧s.want<1073741823∧val x.value=true)(hg:ag (iE (c,s,sub,q,at_,x)).2.1):WW ρ 17 u6 iE (c,s,sub,q,at_,x):=by
 simp only[iE,RR] at hg ⊢
 unfold u6
 obtain ⟨hc,hf,rfl,he,hs,hw,hv⟩:=hp
 have hF:=CB hf he
 have hI:=xM (sub:=sub) hF hv (by omega)
 have hb:=Jz hF.inv
 have hal:=CF hF
 have hcb:=fa hc
 have hkn:=hF.inv.known
 have hcw:=se hF.cw
 simp only[ag,cj,aV] at hg
 simp (disch:=first|omega|assumption|(constructor<;>first|assumption|omega)|simp only[LN];omega) only[↓SB,S1,↓bw,hc,hf,↓da (a_seq:=s.want)]
 refine SUB.v3 (L q) (L s.ahead) (L s.kept) ?_ ?_
 ·simp (disch:=first|omega|assumption|(constructor<;>first|assumption|omega)|simp only[LN];omega) only[↓SB,S1,↓bw]
 simp (disch:=first|omega|assumption|(constructor<;>first|assumption|omega)|simp only[LN];omega) only[↓SB,S1,↓bw,he,↓da (a_seq:=s.want)]
 refine SUB.v1 (bb false) ?_ ?_
 ·simp (disch:=first|omega|assumption|(constructor<;>first|assumption|omega)|simp only[LN];omega) only[↓SB,S1,↓bw,he]
  refine SUB.v1 (bb true) ?_ ?_
  ·simp (disch:=first|omega|assumption|(constructor<;>first|assumption|omega)|simp only[LN];omega) only[↓SB,S1,↓bw]
   exact ⟨fun _=>by simp;omega,fun h=>absurd (show 1≤x.seq by omega) h⟩
  simp (disch:=first|omega|assumption|(constructor<;>first|assumption|omega)|simp only[LN];omega) only[↓SB,S1,↓bw,hv]
 simp (disch:=first|omega|assumption|(constructor<;>first|assumption|omega)|simp only[LN];omega) only[↓SB,S1,↓bw,↓da (a_seq:=s.want)]
 refine SUB.v1 (I 0) ?_ ?_
 ·simp (disch:=first|omega|assumption|(constructor<;>first|assumption|omega)|simp only[LN];omega) only[↓SB,S1,↓bw]
 simp (disch:=first|omega|assumption|(constructor<;>first|assumption|omega)|simp only[LN];omega) only[↓SB,S1,↓bw,↓da (a_seq:=s.want)]
 refine ⟨fun h=>absurd h (by omega),fun _=>?_⟩
 refine SUB.v1 (bb false) ?_ ?_
 ·simp (disch:=first|omega|assumption|(constructor<;>first|assumption|omega)|simp only[LN];omega) only[↓SB,S1,↓bw]
  exact ⟨fun h=>absurd h (by omega),fun _=>by simp;omega⟩
 simp (disch:=first|omega|assumption|(constructor<;>first|assumption|omega)|simp only[LN];omega) only[↓SB,S1,↓bw,↓da (a_seq:=s.want)]
 refine ⟨fun _=>?_,fun h=>absurd hs h⟩
 have hp1:fJ s.kept s.want c.keep=true∧val x.value=true∧s.want<1073741824:=⟨hF.inv.kept,hv,by omega⟩
 simp (disch:=first|omega|assumption|(constructor<;>first|assumption|omega)|simp only[LN];omega) only[↓SB,S1,↓bw,↓da (a_seq:=s.want)]
 refine SUB.v1 (L (fF c sub (s,q,[]) x.value).2.1) ?_ ?_
 ·cases sub<;>simp (disch:=first|omega|assumption|(constructor<;>first|assumption|omega)|simp only[LN];omega) only[↓SB,S1,↓bw]<;>rfl
 have hp2:s.ahead.length≤1000∧0≤s.want+1∧s.want+1≤1073741824∧ ∀y∈s.ahead,s.want+1≤y.seq∧y.seq≤1073741824:=by
  refine ⟨by omega,by omega,by omega,fun y hy=>?_⟩
  have:=Jw hF.ahd y hy
  omega
 have hxl:=hI.len
 simp (disch:=first|omega|assumption|(constructor<;>first|assumption|omega)|simp only[LN];omega) only[↓SB,S1,↓bw,↓da (a_seq:=s.want)]
 refine ax.rule (α:=Nat) (fun i=>[I i,L (eg c sub (fF c sub (s,q,[]) x.value) ((br s.ahead (s.want+1)).take i)).2.2,I (eg c sub (fF c sub (s,q,[]) x.value) ((br s.ahead (s.want+1)).take i)).1.want,I (eg c sub (fF c sub (s,q,[]) x.value) ((br s.ahead (s.want+1)).take i)).1.known,L (eg c sub (fF c sub (s,q,[]) x.value) ((br s.ahead (s.want+1)).take i)).1.kept,L (eg c sub (fF c sub (s,q,[]) x.value) ((br s.ahead (s.want+1)).take i)).2.1]) (fun i=>i≤(br s.ahead (s.want+1)).length) (fun i=>(br s.ahead (s.want+1)).length-i) 0 rfl (by omega) (fun _=>rfl) ?_
 intro i hi
 have hR:=TS hI hi
 simp only[app]
 generalize hr:eg c sub (fF c sub (s,q,[]) x.value) ((br s.ahead (s.want+1)).take i)=r at hR ⊢
 have hib:=Jz hR.inv
 have hrw:=hR.want
 have hro:=hR.on
 have hrk:=hR.inv.known
 simp (disch:=first|omega|assumption|(constructor<;>first|assumption|omega)|simp only[LN];omega) only[↓SB,S1,↓bw]
 refine ⟨fun h4=>?_,fun h4=>?_⟩
 ·obtain ⟨y,hy⟩:=ak h4
  have hys:=AG hI.seq hy
  have hst:=Gn (c:=c) (sub:=sub) (r:=fF c sub (s,q,[]) x.value) hy
  rw[hr] at hst
  have hp3:fJ r.1.kept r.1.want c.keep=true∧val y.value=true∧r.1.want<1073741824:=⟨hR.inv.kept,hys.2.1,by omega⟩
  simp (disch:=first|omega|assumption|(constructor<;>first|assumption|omega)|simp only[LN];omega) only[↓SB,S1,↓bw,af hy,↓da (a_seq:=r.1.want)]
  refine ⟨fun hsub=>⟨i+1,?_,by omega,by omega⟩,fun hsub=>⟨i+1,?_,by omega,by omega⟩⟩
  ·rw[hst];simp[fF,hsub,hR.epoch]
  ·rw[hst];simp[fF,hsub]
 ·have hE:cm c s sub q x.value=({ r.1 with ahead:=qu s.ahead (s.want+1) },r.2):=by
   rw[←hr,List.take_of_length_le (by omega)];rfl
  rw[hE,←hR.epoch]
theorem JA(l:List Item)(want:Int)(hp:l.length≤1000∧0≤want∧want≤1073741824∧ ∀x∈l,want≤x.seq∧x.seq≤1073741824)(hg:ag (go (l,want)).2.1):WW ρ 2 s6 go (l,want):=by
 simp only[go,RR] at hg ⊢
 unfold s6
 obtain ⟨h1,h2,h3,h4⟩:=hp
 have hst:tD l want=l:=Cy fun x hx=>(h4 x hx).1
 have hrl:(br l want).length≤l.length:=by
  rw[br,hst]
  have: ∀(l:List Item) (w:Int),(dQ w l).length≤l.length:=by
   intro l
   induction l with
   | nil=>intro w;simp[dQ]
   | cons x r ih =>
    intro w
    unfold dQ
    split
    ·simp;exact ih _
    ·simp
  exact this l want
 have e1:br l want=dQ want l:=by rw[br,hst]
 have e2:qu l want=l.drop (dQ want l).length:=by rw[qu,hst,e1]
 simp (disch:=first|omega|assumption|(constructor<;>first|assumption|omega)|simp only[LN];omega) only[↓SB,S1,↓aA]
 refine ax.rule (α:=Nat) (fun i=>[I i]) (fun i=>i≤l.length) (fun i=>l.length-i) 0 rfl (by omega) (fun _=>rfl) ?_
 intro i hi
 simp only[app]
 simp (disch:=first|omega|assumption|(constructor<;>first|assumption|omega)|simp only[LN];omega) only[↓SB,S1,↓aA]
 refine ⟨fun h5=>?_,fun h5=>?_⟩
 ·obtain ⟨x,hx⟩:=ak h5
  have hxs:=h4 x (List.mem_of_getElem? hx)
  simp (disch:=first|omega|assumption|(constructor<;>first|assumption|omega)|simp only[LN];omega) only[↓SB,S1,↓aA,af hx]
  exact ⟨fun h=>absurd h (by omega),fun _=>⟨i+1,rfl,by omega,by omega⟩⟩
 clear h5 hi i
 refine ax.rule (α:=Nat) (fun j=>[I j]) (fun j=>j≤l.length∧dQ want l=l.take j++dQ (want+j) (l.drop j)) (fun j=>l.length-j) 0 rfl ⟨by omega,by simp⟩ (fun _=>rfl) ?_
 rintro j ⟨hj,hr⟩
 simp only[app]
 have htk:(l.take j).length=j:=by rw[List.length_take];omega
 have hdk:(l.drop j).length≤1000:=by simp;omega
 have htk2:(l.take j).length≤1000000:=by omega
 have hdk2:(l.drop j).length≤1000000:=by omega
 have fin:dQ (want+j) (l.drop j)=[]→br l want=l.take j∧qu l want=l.drop j:=by
  intro h
  rw[h,List.append_nil] at hr
  exact ⟨by rw[e1,hr],by rw[e2,hr,htk]⟩
 simp (disch:=first|omega|assumption|(constructor<;>first|assumption|omega)|simp only[LN];omega) only[↓SB,S1,↓aA]
 refine ⟨fun h5=>?_,fun h5=>?_⟩
 ·obtain ⟨x,hx⟩:=ak h5
  have hxs:=h4 x (List.mem_of_getElem? hx)
  rw[ay hx] at hr
  simp (disch:=first|omega|assumption|(constructor<;>first|assumption|omega)|simp only[LN];omega) only[↓SB,S1,↓aA,af hx,Int.toNat_natCast]
  refine ⟨fun h6=>⟨j+1,rfl,⟨by omega,?_⟩,by omega⟩,fun h6=>?_⟩
  ·rw[hr,dQ,if_pos (by omega),Ch hx,show want+(j:Int)+1=want+((j+1:Nat):Int) by omega];simp
  ·obtain ⟨f1,f2⟩:=fin (by rw[ay hx,dQ,if_neg (by omega)])
   rw[f1,f2]
 ·obtain ⟨f1,f2⟩:=fin (by rw[ap h5];rfl)
  simp (disch:=first|omega|assumption|(constructor<;>first|assumption|omega)|simp only[LN];omega) only[↓SB,S1,↓aA,Int.toNat_natCast]
  rw[f1,f2]
theorem JB(l:List Item)(want:Int)(limit:Int)(value:Int)(hp:l.length≤1000∧0≤limit∧limit≤1000)(hg:ag (gu (l,want,limit,value)).2.1):WW ρ 4 sb gu (l,want,limit,value):=by
 simp only[gu,RR] at hg ⊢
 unfold sb
 obtain ⟨h1,h2,h3⟩:=hp
 generalize hE:tC l want limit value=q
 rw[AF] at hE
 simp (disch:=first|omega|assumption|(constructor<;>first|assumption|omega)|simp only[LN];omega) only[↓SB,S1,↓da (a_seq:=want)]
 have hx:(max (((l++[(⟨want,value⟩:Item)]).length:Int)-limit) 0).toNat=l.length+1-limit.toNat:=by simp;omega
 rw[hx,hE]
theorem Mu(l:List Event)(limit:Int)(x:Event)(hp:bd l limit=true∧dL x=true)(hg:ag (iH (l,limit,x)).2.1):WW ρ 8 ua iH (l,limit,x):=by
 simp only[iH,RR] at hg ⊢
 unfold ua
 obtain ⟨h1,h2⟩:=hp
 have hpr:(l.length≤1000∧2≤limit∧limit≤32∧(x.kind=3∨x.kind=4))∨(bd l limit=true∧dL x=true):=.inr ⟨h1,h2⟩
 have hf:(vT l limit x).1=sE l limit x:=by
  unfold vT
  split
  ·rename_i hk
   have hs:cT x=false:=by simp[cT];omega
   rw[Cv h1 h2 hs]
  ·rfl
 simp (disch:=first|omega|assumption|(constructor<;>first|assumption|omega)|simp only[LN];omega) only[↓SB,S1,↓zx]
 rw[hf]
theorem Ff(t:Int)(x:Topic)(on:List Item)(hp:on.length≤1000∧x.kids.length≤1000)(hg:ag (eY (t,x,on)).2.1):WW ρ 18 pY eY (t,x,on):=by
 simp only[eY,RR] at hg ⊢
 unfold pY
 obtain ⟨h1,h2⟩:=hp
 have hmul: ∀i,i≤on.length→(jr t x (on.take i)).length≤1000000:=by
  intro i hi
  rw[xO]
  have a:(on.take i).length≤1000:=by simp;omega
  exact Nat.le_trans (Nat.mul_le_mul a h2) (by decide)
 refine ax.rule (α:=Nat) (fun i=>[I i,L (jr t x (on.take i))]) (fun i=>i≤on.length) (fun i=>on.length-i) 0 rfl (by omega) (fun _=>rfl) ?_
 intro i hi
 simp only[app]
 simp (disch:=first|omega|assumption|(constructor<;>first|assumption|omega)|simp only[LN];omega) only[↓SB,S1]
 refine ⟨fun h4=>?_,fun h4=>?_⟩
 ·obtain ⟨y,hy⟩:=ak h4
  have hs:=Gq (t:=t) (x:=x) hy
  have hm:=hmul i hi
  refine ax.rule (α:=Nat) (fun k=>[I k,L (jr t x (on.take i)++(x.kids.take k).map (oP t x y))]) (fun k=>k≤x.kids.length) (fun k=>x.kids.length-k) 0 (by simp) (by omega) (fun _=>rfl) ?_
  intro k hk
  simp only[app]
  simp (disch:=first|omega|assumption|(constructor<;>first|assumption|omega)|simp only[LN];omega) only[↓SB,S1,af hy]
  refine ⟨fun h5=>?_,fun h5=>?_⟩
  ·obtain ⟨z,hz⟩:=ak h5
   have hlk:((x.kids.take k).map (oP t x y)).length≤1000:=by simp;omega
   simp (disch:=first|omega|assumption|(constructor<;>first|assumption|omega)|simp only[LN];omega) only[↓SB,S1,af hz,↓sl]
   exact ⟨k+1,by rw[Ch hz];simp[oP,lp],by omega,by omega⟩
  ·have hke:k=x.kids.length:=by omega
   subst hke
   exact ⟨i+1,by rw[hs];simp,by omega,by omega⟩
 ·have:i=on.length:=by omega
  subst this
  simp
end Go.Xt
end
section
set_option linter.unusedSimpArgs false
set_option linter.unusedVariables false
set_option maxRecDepth 100000
namespace Go.Xt
set_option linter.defProp false
set_option maxHeartbeats 4000000
theorem CG{c:Config}{t self:Int}{x:Topic}{v:Int}(h: ¬(ao self x).2=0):au c t self x v=(fp,[],(ao self x).2):=by
 unfold au;rw[if_pos h]
theorem zH{c:Config}{t self:Int}{x:Topic}{v:Int}(h:(ao self x).2=0)(h2:1073741823≤(ao self x).1.stream.want):au c t self x v=(fp,[],11):=by
 unfold au;rw[if_neg (by simpa using h),if_pos h2]
theorem Gu{c:Config}{t self:Int}{x:Topic}{v:Int}(h:(ao self x).2=0)(h2: ¬1073741823≤(ao self x).1.stream.want) :
  au c t self x v=({ (ao self x).1 with stream:=(cm c (ao self x).1.stream (ao self x).1.sub (ao self x).1.queue v).1,queue:=(cm c (ao self x).1.stream (ao self x).1.sub (ao self x).1.queue v).2.1 },jr t { (ao self x).1 with stream:=(cm c (ao self x).1.stream (ao self x).1.sub (ao self x).1.queue v).1,queue:=(cm c (ao self x).1.stream (ao self x).1.sub (ao self x).1.queue v).2.1 } (cm c (ao self x).1.stream (ao self x).1.sub (ao self x).1.queue v).2.2,0):=by
 unfold au;rw[if_neg (by simpa using h),if_neg h2]
theorem JC{c:Config}{s:Stream}{sub:Bool}{q:List Event}{v:Int}(h:FOk c s q)(hv:val v=true)(hw:s.want<1073741824):(cm c s sub q v).2.2.length≤17:=by
 have h1:=CC (sub:=sub) h hv hw
 have h2:=(xM (sub:=sub) h hv hw).len
 have h3:=CF h
 rw[h1.2.1,List.length_cons];omega
def aK:=And.intro @cb (And.intro @Ew (And.intro @pe (And.intro @Lk (@Ll))))
theorem Fg(c:Config)(t:Int)(self:Int)(x:Topic)(value:Int)(hp:uP c t self x=0∧val value=true)(hg:ag (eW (c,t,self,x,value)).2.1):WW ρ 26 pW eW (c,t,self,x,value):=by
 simp only[eW,RR] at hg ⊢
 unfold pW
 obtain ⟨hp,hv⟩:=hp
 have hW:(if bC c=true then (if (jp c t self&&aS c t self x)=true then (0:Int) else 1) else 13)=0:=hp
 obtain ⟨h1,h2,h3⟩:=xK hp
 by_cases he:(ao self x).2=0
 ·have hB:=yL hp he
  by_cases hw:1073741823≤(ao self x).1.stream.want
  ·rw[zH he hw]
   simp (disch:=first|omega|assumption|(constructor<;>first|assumption|omega)|simp only[LN];omega) only[↓SB,S1,↓aK,hW,hv]
   refine SUB.v1 (bb false) ?_ ?_
   ·simp (disch:=first|omega|assumption|(constructor<;>first|assumption|omega)|simp only[LN];omega) only[↓SB,S1,↓aK,hW,hv]
   simp (disch:=first|omega|assumption|(constructor<;>first|assumption|omega)|simp only[LN];omega) only[↓SB,S1,↓aK]
   refine SUB.v1 (I 0) ?_ ?_
   ·simp (disch:=first|omega|assumption|(constructor<;>first|assumption|omega)|simp only[LN];omega) only[↓SB,S1,↓aK]
   simp (disch:=first|omega|assumption|(constructor<;>first|assumption|omega)|simp only[LN];omega) only[↓SB,S1,↓aK,he]
   refine SUB.v1 (bb true) ?_ ?_
   ·simp (disch:=first|omega|assumption|(constructor<;>first|assumption|omega)|simp only[LN];omega) only[↓SB,S1,↓aK,he]
    simp[hw]
   simp (disch:=first|omega|assumption|(constructor<;>first|assumption|omega)|simp only[LN];omega) only[↓SB,S1,↓aK]
   simp[fp,L]
  ·rw[Gu he hw]
   have hon:=JC (sub:=(ao self x).1.sub) hB.flow hv (by omega)
   have hkl:=xN hB.ok
   have hpf:bC c=true∧dv c (ao self x).1.stream (ao self x).1.queue=true∧(ao self x).1.root=(ao self x).1.stream.epoch∧ep (ao self x).1.root=true∧(ao self x).1.stream.want=(ao self x).1.stream.want∧(ao self x).1.stream.want<1073741823∧val value=true:=⟨h1,hB.flow.flow,hB.epoch.symm,hB.ep,rfl,by omega,hv⟩
   simp (disch:=first|omega|assumption|(constructor<;>first|assumption|omega)|simp only[LN];omega) only[↓SB,S1,↓aK,hW,hv]
   refine SUB.v1 (bb false) ?_ ?_
   ·simp (disch:=first|omega|assumption|(constructor<;>first|assumption|omega)|simp only[LN];omega) only[↓SB,S1,↓aK,hW,hv]
   simp (disch:=first|omega|assumption|(constructor<;>first|assumption|omega)|simp only[LN];omega) only[↓SB,S1,↓aK]
   refine SUB.v1 (I 0) ?_ ?_
   ·simp (disch:=first|omega|assumption|(constructor<;>first|assumption|omega)|simp only[LN];omega) only[↓SB,S1,↓aK]
   simp (disch:=first|omega|assumption|(constructor<;>first|assumption|omega)|simp only[LN];omega) only[↓SB,S1,↓aK,he]
   refine SUB.v1 (bb false) ?_ ?_
   ·simp (disch:=first|omega|assumption|(constructor<;>first|assumption|omega)|simp only[LN];omega) only[↓SB,S1,↓aK,he]
    simp[hw]
    try omega
   simp (disch:=first|omega|assumption|(constructor<;>first|assumption|omega)|simp only[LN];omega) only[↓SB,S1,↓aK,he]
 ·rw[CG he]
  simp (disch:=first|omega|assumption|(constructor<;>first|assumption|omega)|simp only[LN];omega) only[↓SB,S1,↓aK,hW,hv]
  refine SUB.v1 (bb false) ?_ ?_
  ·simp (disch:=first|omega|assumption|(constructor<;>first|assumption|omega)|simp only[LN];omega) only[↓SB,S1,↓aK,hW,hv]
  simp (disch:=first|omega|assumption|(constructor<;>first|assumption|omega)|simp only[LN];omega) only[↓SB,S1,↓aK]
  refine SUB.v1 (I 0) ?_ ?_
  ·simp (disch:=first|omega|assumption|(constructor<;>first|assumption|omega)|simp only[LN];omega) only[↓SB,S1,↓aK]
  simp (disch:=first|omega|assumption|(constructor<;>first|assumption|omega)|simp only[LN];omega) only[↓SB,S1,↓aK,he]
  refine SUB.v1 (bb false) ?_ ?_
  ·simp (disch:=first|omega|assumption|(constructor<;>first|assumption|omega)|simp only[LN];omega) only[↓SB,S1,↓aK,he]
  simp (disch:=first|omega|assumption|(constructor<;>first|assumption|omega)|simp only[LN];omega) only[↓SB,S1,↓aK,he]
  simp[fp,L]
theorem Fh(c:Config)(self:Int)(n:Node)(t:Int)(hp:aI n=false)(hg:ag (eX (c,self,n,t)).2.1):WW ρ 18 pX eX (c,self,n,t):=by
 simp only[eX,RR] at hg ⊢
 unfold pX
 generalize hE:bm c self n t=q
 unfold bm at hE
 simp (disch:=first|omega|assumption|(constructor<;>first|assumption|omega)|simp only[LN];omega) only[↓SB,S1,↓na]
 by_cases h:aU c self n=0
 ·rw[if_pos h] at hE
  obtain ⟨hc,hs,hu,H⟩:=dI h
  have hcb:=fa hc
  simp (disch:=first|omega|assumption|(constructor<;>first|assumption|omega)|simp only[LN];omega) only[↓SB,S1,↓na,h]
  refine ⟨fun h1=>?_,fun h1=>⟨fun h2=>?_,fun h2=>?_⟩⟩
  ·rw[if_neg (by intro h3;have:=aZ h3;omega)] at hE;rw[←hE]
  ·rw[if_neg (by intro h3;have:=aZ h3;omega)] at hE;rw[←hE]
  ·rw[if_pos (by simp[rng];omega)] at hE;rw[←hE]
 ·rw[if_neg h] at hE
  simp (disch:=first|omega|assumption|(constructor<;>first|assumption|omega)|simp only[LN];omega) only[↓SB,S1,↓na,h]
  rw[hE]
theorem JD(c:Config)(self:Int)(n:Node)(t:Int)(hp:aI n=false)(hg:ag (gr (c,self,n,t)).2.1):WW ρ 18 s8 gr (c,self,n,t):=by
 simp only[gr,RR] at hg ⊢
 unfold s8
 generalize hE:aJ c self n t=q
 unfold aJ at hE
 simp (disch:=first|omega|assumption|(constructor<;>first|assumption|omega)|simp only[LN];omega) only[↓SB,S1,↓lX]
 by_cases h:bm c self n t=0
 ·rw[if_pos h] at hE
  obtain ⟨h1,h2⟩:=lL h
  obtain ⟨k,x,rfl,A⟩:=uh h1 h2
  have hlt:=A.lt
  rw[A.at_] at hE
  simp (disch:=first|omega|assumption|(constructor<;>first|assumption|omega)|simp only[LN];omega) only[↓SB,S1,↓lX,h,af A.get]
  refine ⟨fun h3=>?_,fun h3=>?_⟩
  ·rw[if_neg (by rw[h3];simp)] at hE;rw[←hE]
  ·rw[if_pos h3] at hE;rw[←hE]
 ·rw[if_neg h] at hE
  simp (disch:=first|omega|assumption|(constructor<;>first|assumption|omega)|simp only[LN];omega) only[↓SB,S1,↓lX,h]
  rw[hE]
def fB:=And.intro @oL (@lX)
theorem CH(c:Config)(self:Int)(n:Node)(t:Int)(hp:aI n=false)(hg:ag (cV (c,self,n,t)).2.1):WW ρ 18 od cV (c,self,n,t):=by
 simp only[cV,RR] at hg ⊢
 unfold od
 generalize hE:fK c self n t=q
 unfold fK at hE
 simp (disch:=first|omega|assumption|(constructor<;>first|assumption|omega)|simp only[LN];omega) only[↓SB,S1,↓fB]
 by_cases h:bm c self n t=0
 ·rw[if_pos h] at hE
  obtain ⟨h1,h2⟩:=lL h
  obtain ⟨k,x,rfl,A⟩:=uh h1 h2
  have hlt:=A.lt
  rw[A.at_] at hE
  refine SUB.v1 (bb x.made) ?_ ?_
  ·simp (disch:=first|omega|assumption|(constructor<;>first|assumption|omega)|simp only[LN];omega) only[↓SB,S1,↓fB,h,af A.get]
  simp (disch:=first|omega|assumption|(constructor<;>first|assumption|omega)|simp only[LN];omega) only[↓SB,S1,↓fB,h]
  refine ⟨fun h3=>?_,fun h3=>?_⟩
  ·rw[if_pos h3] at hE;rw[←hE];simp[bi,L]
  ·rw[if_neg (by rw[h3];simp)] at hE
   rw[←hE]
   simp (disch:=first|omega|assumption|(constructor<;>first|assumption|omega)|simp only[LN];omega) only[↓SB,S1,↓fB,↓bk A.get (j:=0) (v:=bb true) (y:={ x with made:=true }) rfl]
   simp[cA]
 ·rw[if_neg h] at hE
  refine SUB.v1 (bb false) ?_ ?_
  ·simp (disch:=first|omega|assumption|(constructor<;>first|assumption|omega)|simp only[LN];omega) only[↓SB,S1,↓fB,h]
  simp (disch:=first|omega|assumption|(constructor<;>first|assumption|omega)|simp only[LN];omega) only[↓SB,S1,↓fB,h]
  rw[←hE];simp[bi,L]
def gy:=And.intro @oL (@nb)
theorem JE(c:Config)(self:Int)(n:Node)(t:Int)(sub:Bool)(why:Int)(hp:aI n=false∧why≠0)(hg:ag (gt (c,self,n,t,sub,why)).2.1):WW ρ 20 s9 gt (c,self,n,t,sub,why):=by
 simp only[gt,RR] at hg ⊢
 unfold s9
 obtain ⟨hp,hy⟩:=hp
 generalize hE:fG c self n t sub why=q
 unfold fG at hE
 simp (disch:=first|omega|assumption|(constructor<;>first|assumption|omega)|simp only[LN];omega) only[↓SB,S1,↓gy]
 by_cases h:aJ c self n t=0
 ·rw[if_pos h] at hE
  obtain ⟨h1,h2,h3⟩:=yN h
  obtain ⟨k,x,rfl,A⟩:=uh h1 h2
  have hlt:=A.lt
  rw[A.at_] at hE
  refine SUB.v1 (bb (x.sub == sub)) ?_ ?_
  ·simp (disch:=first|omega|assumption|(constructor<;>first|assumption|omega)|simp only[LN];omega) only[↓SB,S1,↓gy,h,af A.get]
  have hg2:(n.topics.set k { x with sub:=sub })[k]? =some { x with sub:=sub }:=by simp[hlt]
  simp (disch:=first|omega|assumption|(constructor<;>first|assumption|omega)|simp only[LN];omega) only[↓SB,S1,↓gy,h]
  by_cases h4:x.sub=sub
  ·rw[if_pos h4] at hE
   simp (disch:=first|omega|assumption|(constructor<;>first|assumption|omega)|simp only[LN];omega) only[↓SB,S1,↓gy,h4,beq_self_eq_true]
   rw[←hE]
   refine ⟨fun h0=>?_,fun h0=>?_⟩ <;>first | exact absurd h0 hy | simp[bi,L]
  ·rw[if_neg h4] at hE
   rw[←hE]
   have h5:(x.sub == sub)=false:=by simpa using h4
   have hsl:(n.topics.set k { x with sub:=sub }).length=n.topics.length:=by simp
   simp (disch:=first|omega|assumption|(constructor<;>first|assumption|omega)|simp only[LN];omega) only[↓SB,S1,↓gy,h5,↓bk A.get (j:=1) (v:=bb sub) (y:={ x with sub:=sub }) rfl,↓bk hg2 (j:=15) (v:=.list []) (y:={ x with sub:=sub,queue:=[] }) rfl]
   simp[cA]
 ·rw[if_neg h] at hE
  refine SUB.v1 (bb false) ?_ ?_
  ·simp (disch:=first|omega|assumption|(constructor<;>first|assumption|omega)|simp only[LN];omega) only[↓SB,S1,↓gy,h]
  simp (disch:=first|omega|assumption|(constructor<;>first|assumption|omega)|simp only[LN];omega) only[↓SB,S1,↓gy,h]
  rw[←hE];simp[bi,L]
theorem xP(c:Config)(self:Int)(n:Node)(t:Int)(hp:aI n=false)(hg:ag (bz (c,self,n,t)).2.1):WW ρ 18 kT bz (c,self,n,t):=by
 simp only[bz,RR] at hg ⊢
 unfold kT
 have hp2:aI n=false∧(8:Int)≠0:=⟨hp,by decide⟩
 simp (disch:=first|omega|assumption|(constructor<;>first|assumption|omega)|simp only[LN];omega) only[↓SB,S1,↓xu]
theorem uR(c:Config)(self:Int)(n:Node)(t:Int)(hp:aI n=false)(hg:ag (bO (c,self,n,t)).2.1):WW ρ 18 ji bO (c,self,n,t):=by
 simp only[bO,RR] at hg ⊢
 unfold ji
 have hp2:aI n=false∧(7:Int)≠0:=⟨hp,by decide⟩
 simp (disch:=first|omega|assumption|(constructor<;>first|assumption|omega)|simp only[LN];omega) only[↓SB,S1,↓xu]
def kY:=And.intro @oL (And.intro @nb (@Iu))
theorem JF(c:Config)(self:Int)(n:Node)(t:Int)(hp:aI n=false)(hg:ag (dj (c,self,n,t)).2.1):WW ρ 18 sa dj (c,self,n,t):=by
 simp only[dj,RR] at hg ⊢
 unfold sa
 generalize hE:ke c self n t=q
 unfold ke at hE
 simp (disch:=first|omega|assumption|(constructor<;>first|assumption|omega)|simp only[LN];omega) only[↓SB,S1,↓kY]
 by_cases h:aJ c self n t=0
 ·rw[if_pos h] at hE
  obtain ⟨h1,h2,h3⟩:=yN h
  obtain ⟨k,x,rfl,A⟩:=uh h1 h2
  have hlt:=A.lt
  have hql:=lJ (xH A.ok)
  rw[A.at_] at hE
  simp (disch:=first|omega|assumption|(constructor<;>first|assumption|omega)|simp only[LN];omega) only[↓SB,S1,↓kY,h,af A.get]
  cases hq:x.queue with
  | nil =>
   rw[hq] at hE
   rw[←hE]
   simp (disch:=first|omega|assumption|(constructor<;>first|assumption|omega)|simp only[LN];omega) only[↓SB,S1,↓kY]
   simp[bi,dw,L]
  | cons y r =>
   rw[hq] at hE
   rw[←hE]
   simp only[List.tail_cons,List.headD_cons]
   simp (disch:=first|omega|assumption|(constructor<;>first|assumption|omega)|simp only[LN];omega) only[↓SB,S1,↓kY,↓bk A.get (j:=15) (v:=L r) (y:={ x with queue:=r }) rfl]
   simp[cA]
 ·rw[if_neg h] at hE
  simp (disch:=first|omega|assumption|(constructor<;>first|assumption|omega)|simp only[LN];omega) only[↓SB,S1,↓kY,h]
  rw[←hE];simp[bi,dw,L]
theorem Rv{c:Config}{self:Int}{n:Node}{t:Int}(h1:aU c self n=0)(h2:rng t 0 (c.topics-1)=true):bu n.peers=true∧rng self 0 (n.peers.length-1)=true∧isT t=true:=by
 obtain ⟨hc,hs,hu,H⟩:=dI h1
 have hb:=fa hc
 have hr:=aZ h2
 refine ⟨H.peers,by rw[H.pl];exact hs,iZ.2 (by omega)⟩
theorem JG{c:Config}{self:Int}{n:Node}{k:Nat}{x:Topic}(h1:aU c self n=0)(h2:rng (k:Int) 0 (c.topics-1)=true)(A:AtOk c self n k x):uP c k self x=0:=by
 obtain ⟨hc,hs,hu,H⟩:=dI h1
 exact SC hc (by simp[jp,h2,hs]) A.ok
theorem xQ{n:Node}{l:List Msg}(h:n.peers.length≤12)(hl:l.length≤1000)(hm: ∀m∈l,m.path=[]∧m.todo=[]):l.length≤1000∧n.peers.length≤12∧ ∀m∈l,m.path.length≤30∧m.todo.length≤30 :=
 ⟨hl,h,fun m hm'=>by have:=hm m hm';rw[this.1,this.2];simp⟩
theorem SH{t:Int}{x:Topic}{on:List Item}(h1:on.length≤17)(h2:x.kids.length≤4):(jr t x on).length≤1000∧ ∀m∈jr t x on,m.path=[]∧m.todo=[]:=by
 refine ⟨?_,fun m hm=>⟨(yM hm).1,(yM hm).2.1⟩⟩
 rw[xO]
 exact Nat.le_trans (Nat.mul_le_mul h1 h2) (by decide)
theorem CI{c:Config}{t self:Int}{x:Topic}{v:Int}(hw:uP c t self x=0)(hv:val v=true):(au c t self x v).2.1.length≤1000∧ ∀m∈(au c t self x v).2.1,m.path=[]∧m.todo=[]:=by
 by_cases h0:(au c t self x v).2.2=0
 ·have A:=Gp hw hv h0
  rw[A.eq]
  exact SH (JC A.B.flow hv (by have:=A.want;omega)) (xN A.ok)
 ·unfold au at h0 ⊢
  split
  ·simp
  ·split
   ·simp
   ·rename_i a b;rw[if_neg a,if_neg b] at h0;exact absurd rfl h0
theorem xR{self:Int}{n m:Node}(hi:n.inc=m.inc)(hp:n.peers=m.peers): ∀l,er self n l=er self m l
 | []=>rfl
 | x::r=>by
  have h1:tB self n x=tB self m x:=by simp[tB,hi,hp]
  have h2:ov n x.to=ov m x.to:=by simp[ov,hp]
  simp only[er,h1,h2,xR hi hp r]
theorem zI{self:Int}{n m:Node}(hi:n.inc=m.inc)(hp:n.peers=m.peers)(l:List Msg):mi self n l=mi self m l:=by
 unfold mi;rw[xR hi hp]
def dg:=And.intro @oL (And.intro @zy (And.intro @nb (And.intro @cb (And.intro @Lm (And.intro @Ez (@zu))))))
theorem Al(c:Config)(self:Int)(n:Node)(t:Int)(value:Int)(hp:aI n=false)(hg:ag (cB (c,self,n,t,value)).2.1):WW ρ 19 mO cB (c,self,n,t,value):=by
 simp only[cB,RR] at hg ⊢
 unfold mO
 simp only[ag,cj,aV] at hg
 generalize hE:ca c self n t value=q
 unfold ca at hE
 have hhb:=og hp
 by_cases h:aJ c self n t=0
 ·rw[if_pos h] at hE
  obtain ⟨h1,h2,h3⟩:=yN h
  obtain ⟨k,x,rfl,A⟩:=uh h1 h2
  have hlt:=A.lt
  have hown:=Rv h1 h2
  have htw:=JG h1 h2 A
  obtain ⟨hc,hs,hu,H⟩:=dI h1
  have hpb:=aZ H.pubs
  simp (disch:=first|omega|assumption|(constructor<;>first|assumption|omega)|simp only[LN];omega) only[↓SB,S1,↓dg,h]
  cases hv:val value
  ·rw[hv] at hE
   simp (disch:=first|omega|assumption|(constructor<;>first|assumption|omega)|simp only[LN];omega) only[↓SB,S1,↓dg,hv]
   rw[←hE];simp[bi,L]
  rw[if_pos hv] at hE
  unfold jt at hE
  simp (disch:=first|omega|assumption|(constructor<;>first|assumption|omega)|simp only[LN];omega) only[↓SB,S1,↓dg,hv]
  refine ⟨fun h4=>?_,fun h4=>?_⟩
  ·rw[if_pos h4] at hE;rw[←hE];simp[bi,L]
  rw[if_neg h4] at hE
  unfold OO at hE
  simp only[A.at_] at hE
  have hao:=CI (v:=value) htw hv
  have hta:uP c k self x=0∧val value=true:=⟨htw,hv⟩
  refine ⟨fun h5=>?_,fun h5=>?_⟩
  ·rw[if_pos h5] at hE
   simp (disch:=first|omega|assumption|(constructor<;>first|assumption|omega)|simp only[LN];omega) only[↓SB,S1,↓dg,af A.get]
   have hmp:=xQ (n:=cA { n with pubs:=n.pubs+1 } k (au c k self x value).1) (l:=(au c k self x value).2.1) hhb.1 hao.1 hao.2
   rw[P1 A.get]
   have hmc:=zI (self:=self) (n:=cA { n with pubs:=n.pubs+1 } k (au c k self x value).1) (m:={ n with pubs:=n.pubs+1 }) rfl rfl (au c k self x value).2.1
   refine ⟨fun h6=>?_,fun h6=>?_⟩
   ·rw[if_neg h6] at hE;rw[←hE];simp[bi,L]
   ·rw[if_pos h6] at hE
    rw[←hE]
    simp only[cA,Int.toNat_natCast] at hmp hmc ⊢
    simp (disch:=first|omega|assumption|(constructor<;>first|assumption|omega)|simp only[LN];omega) only[↓SB,S1,↓dg]
    rw[hmc]
  ·rw[if_neg (by rw[h5];simp)] at hE
   rw[←hE]
   have hmp:=xQ (n:={ n with pubs:=n.pubs+1 }) (l:=[QI self n k value]) hhb.1 (by simp) (by intro m hm;rw[List.mem_singleton] at hm;subst hm;exact ⟨rfl,rfl⟩)
   simp only[QI,lp] at hmp ⊢
   simp (disch:=first|omega|assumption|(constructor<;>first|assumption|omega)|simp only[LN];omega) only[↓SB,S1,↓dg,↓sl]
 ·rw[if_neg h] at hE
  simp (disch:=first|omega|assumption|(constructor<;>first|assumption|omega)|simp only[LN];omega) only[↓SB,S1,↓dg,h]
  rw[←hE];simp[bi,L]
theorem Od{c:Config}{self:Int}{n:Node}{x:Msg}:(jO c self n x).2.length≤1∧ ∀m∈(jO c self n x).2,m.path.length≤x.path.length+1∧m.todo.length≤(cF n (x.path++[self]) x.todo (qt self n x.topic)).length:=by
 unfold jO mU goN
 split
 ·split
  ·simp
  ·simp[lp];split<;>simp
 ·split
  ·unfold mU;split
   ·simp
   ·simp[lp]
  ·simp
theorem Gv(n:Node)(pt:List Int): ∀(l td:List Int),(cF n pt td l).length≤td.length+l.length
 | [],td=>by simp[cF]
 | k::r,td=>by
  rw[cF]
  refine Nat.le_trans (Gv n pt r _) ?_
  split<;>simp<;>omega
theorem Rw(self:Int)(n:Node)(t:Int):(qt self n t).length≤(be n t).kids.length+2:=by
 unfold qt
 simp only[List.length_append,List.length_map,List.length_singleton]
 split<;>simp
theorem SI{c:Config}{self:Int}{n:Node}{t v:Int}(h:(aT c self n t v).2.2.2=0):aU c self n=0∧rng t 0 (c.topics-1)=true∧val v=true∧n.asks<40:=by
 unfold aT at h
 split at h
 ·rename_i h1
  split at h
  ·rename_i h2
   rw[Bool.and_eq_true] at h2
   split at h
   ·rename_i h3;exact ⟨h1,h2.1,h2.2,h3⟩
   ·simp at h
  ·simp at h
 ·rename_i h1;exact absurd h h1
theorem CJ{c:Config}{self:Int}{n:Node}{t v:Int}(h:(aT c self n t v).2.2.2=0) :
  (aT c self n t v).2.1.length≤1000∧(aT c self n t v).1.peers.length≤12∧ ∀m∈(aT c self n t v).2.1,m.path.length≤30∧m.todo.length≤30:=by
 obtain ⟨h1,h2,h3,h4⟩:=SI h
 obtain ⟨b1,b2,b3,b4,b5,b6⟩:=PS h1 h2 h3 h4 rfl
 obtain ⟨hc,hs,hu,H⟩:=dI b4
 have hcb:=fa hc
 have hpl:=H.pl
 have e:(aT c self n t v).2.1=(jO c self { n with asks:=n.asks+1,calls:=n.calls++[⟨n.asks+1,t,0⟩],marks:=jq n.marks self n.inc (n.asks+1) } { lp with topic:=t,node:=self,inc:=n.inc,count:=n.asks+1,value:=v }).2:=by
  unfold aT;rw[if_pos h1,if_pos (by rw[h2,h3];rfl),if_pos h4]
 have hv:=Od (c:=c) (self:=self) (n:={ n with asks:=n.asks+1,calls:=n.calls++[⟨n.asks+1,t,0⟩],marks:=jq n.marks self n.inc (n.asks+1) }) (x:={ lp with topic:=t,node:=self,inc:=n.inc,count:=n.asks+1,value:=v })
 obtain ⟨k,x,rfl,A⟩:=uh h1 h2
 have hk:=xN A.ok
 rw[e]
 refine ⟨by omega,by omega,fun m hm=>?_⟩
 have hm2:=hv.2 m hm
 have h5:=Gv { n with asks:=n.asks+1,calls:=n.calls++[⟨n.asks+1,k,0⟩],marks:=jq n.marks self n.inc (n.asks+1) } (([]:List Int)++[self]) (qt self { n with asks:=n.asks+1,calls:=n.calls++[⟨n.asks+1,k,0⟩],marks:=jq n.marks self n.inc (n.asks+1) } k) []
 have h6:=Rw self { n with asks:=n.asks+1,calls:=n.calls++[⟨n.asks+1,k,0⟩],marks:=jq n.marks self n.inc (n.asks+1) } k
 have h7:be { n with asks:=n.asks+1,calls:=n.calls++[⟨n.asks+1,k,0⟩],marks:=jq n.marks self n.inc (n.asks+1) } k=x:=A.at_
 rw[h7] at h6
 simp only[lp,List.length_nil] at hm2 h5 h6 ⊢
 omega
def ss:=And.intro @zy (And.intro @nb (@Ip))
theorem Am(c:Config)(self:Int)(n:Node)(t:Int)(value:Int)(hp:aI n=false)(hg:ag (de (c,self,n,t,value)).2.1):WW ρ 19 mP de (c,self,n,t,value):=by
 simp only[de,RR] at hg ⊢
 unfold mP
 simp only[ag,cj,aV] at hg
 generalize hE:ju c self n t value=q
 unfold ju at hE
 have hhb:=og hp
 simp (disch:=first|omega|assumption|(constructor<;>first|assumption|omega)|simp only[LN];omega) only[↓SB,S1,↓ss]
 by_cases h:aJ c self n t=0
 ·rw[if_pos h] at hE
  refine ⟨fun h1=>absurd h h1,fun _=>⟨fun h2=>?_,fun h2=>?_⟩⟩
  ·rw[if_neg h2] at hE;rw[←hE];simp[bi,L]
  ·rw[if_pos h2] at hE
   have hmb:=CJ h2
   rw[←hE]
   simp (disch:=first|omega|assumption|(constructor<;>first|assumption|omega)|simp only[LN];omega) only[↓SB,S1,↓ss]
 ·rw[if_neg h] at hE
  exact ⟨fun _=>by rw[←hE];simp[bi,L],fun h1=>absurd h1 h⟩
end Go.Xt
end
section
set_option linter.unusedSimpArgs false
set_option linter.unusedVariables false
set_option maxRecDepth 100000
namespace Go.Xt
set_option linter.defProp false
set_option maxHeartbeats 4000000
def wC:=fK sr 3 wN0 1
def wS:=fG sr 3 wC.1 1 true 8
def wP:=ca sr 3 wS.1 1 9
def wQ:=ke sr 3 wP.1 1
def wR2:=ke sr 3 wQ.1 1
def wU:=fG sr 3 wP.1 2 true 8
theorem wc0:aI wN0=false∧aI wC.1=false∧aI wS.1=false∧aI wP.1=false∧aI wQ.1=false:=by decide +kernel
theorem wc1:wC.2=0∧wS.2=0∧wP.2.2.2=0∧wP.2.1=[]∧wP.2.2.1=1∧wQ.2.2=0∧wQ.2.1=⟨1,3,1,0,9,0⟩∧wR2.2.2=10∧wU.2=7:=by decide +kernel
def Fi:=And.intro @re (And.intro @nV (And.intro @kO (And.intro @mD (@rh))))
theorem Fj  :WW ρ 0 pZ jw ():=by
 simp only[jw,RR]
 unfold pZ
 have e8:(8:Int).toNat=8:=rfl
 have e4:(4:Int).toNat=4:=rfl
 rw[re]
 have cC: ∀k,CALL ρ 13 [I 8,I 4,I 2,I 8,I 8,I 8,I 16,I 3,bb true,I 1,L wN0.peers,L wN0.topics,L (α:=Call) [],I 0,I 0,L wN0.marks,L (α:=Mark2) [],I 1] 10 k=k (bb wC.1.up) (I wC.1.inc) (L wC.1.peers) (L wC.1.topics) (L wC.1.calls) (I wC.1.pubs) (I wC.1.asks) (L wC.1.marks) (L wC.1.taken) (I wC.2) :=
  fun k=>CE cV 13 10 rfl (fun _=>rfl) (sr,3,wN0,1) k wc0.1 rfl
 have cS: ∀k,CALL ρ 14 [I 8,I 4,I 2,I 8,I 8,I 8,I 16,I 3,bb wC.1.up,I wC.1.inc,L wC.1.peers,L wC.1.topics,L wC.1.calls,I wC.1.pubs,I wC.1.asks,L wC.1.marks,L wC.1.taken,I 1] 10 k=k (bb wS.1.up) (I wS.1.inc) (L wS.1.peers) (L wS.1.topics) (L wS.1.calls) (I wS.1.pubs) (I wS.1.asks) (L wS.1.marks) (L wS.1.taken) (I wS.2) :=
  fun k=>CE bz 14 10 rfl (fun _=>rfl) (sr,3,wC.1,1) k wc0.2.1 rfl
 have cP: ∀k,CALL ρ 15 [I 8,I 4,I 2,I 8,I 8,I 8,I 16,I 3,bb wS.1.up,I wS.1.inc,L wS.1.peers,L wS.1.topics,L wS.1.calls,I wS.1.pubs,I wS.1.asks,L wS.1.marks,L wS.1.taken,I 1,I 9] 12 k=k (bb wP.1.up) (I wP.1.inc) (L wP.1.peers) (L wP.1.topics) (L wP.1.calls) (I wP.1.pubs) (I wP.1.asks) (L wP.1.marks) (L wP.1.taken) (L wP.2.1) (I wP.2.2.1) (I wP.2.2.2) :=
  fun k=>CE cB 15 12 rfl (fun _=>rfl) (sr,3,wS.1,1,9) k wc0.2.2.1 rfl
 have cQ: ∀k,CALL ρ 16 [I 8,I 4,I 2,I 8,I 8,I 8,I 16,I 3,bb wP.1.up,I wP.1.inc,L wP.1.peers,L wP.1.topics,L wP.1.calls,I wP.1.pubs,I wP.1.asks,L wP.1.marks,L wP.1.taken,I 1] 16 k=k (bb wQ.1.up) (I wQ.1.inc) (L wQ.1.peers) (L wQ.1.topics) (L wQ.1.calls) (I wQ.1.pubs) (I wQ.1.asks) (L wQ.1.marks) (L wQ.1.taken) (I wQ.2.1.kind) (I wQ.2.1.epoch) (I wQ.2.1.seq) (I wQ.2.1.last) (I wQ.2.1.value) (I wQ.2.1.count) (I wQ.2.2) :=
  fun k=>CE dj 16 16 rfl (fun _=>rfl) (sr,3,wP.1,1) k wc0.2.2.2.1 rfl
 have cR: ∀k,CALL ρ 16 [I 8,I 4,I 2,I 8,I 8,I 8,I 16,I 3,bb wQ.1.up,I wQ.1.inc,L wQ.1.peers,L wQ.1.topics,L wQ.1.calls,I wQ.1.pubs,I wQ.1.asks,L wQ.1.marks,L wQ.1.taken,I 1] 16 k=k (bb wR2.1.up) (I wR2.1.inc) (L wR2.1.peers) (L wR2.1.topics) (L wR2.1.calls) (I wR2.1.pubs) (I wR2.1.asks) (L wR2.1.marks) (L wR2.1.taken) (I wR2.2.1.kind) (I wR2.2.1.epoch) (I wR2.2.1.seq) (I wR2.2.1.last) (I wR2.2.1.value) (I wR2.2.1.count) (I wR2.2.2) :=
  fun k=>CE dj 16 16 rfl (fun _=>rfl) (sr,3,wQ.1,1) k wc0.2.2.2.2 rfl
 have cU: ∀k,CALL ρ 14 [I 8,I 4,I 2,I 8,I 8,I 8,I 16,I 3,bb wP.1.up,I wP.1.inc,L wP.1.peers,L wP.1.topics,L wP.1.calls,I wP.1.pubs,I wP.1.asks,L wP.1.marks,L wP.1.taken,I 2] 10 k=k (bb wU.1.up) (I wU.1.inc) (L wU.1.peers) (L wU.1.topics) (L wU.1.calls) (I wU.1.pubs) (I wU.1.asks) (L wU.1.marks) (L wU.1.taken) (I wU.2) :=
  fun k=>CE bz 14 10 rfl (fun _=>rfl) (sr,3,wP.1,2) k wc0.2.2.2.1 rfl
 have f1:(List.replicate 8 (⟨0,0⟩:Peer))=wN0.peers:=rfl
 have f2:(List.replicate 4 fp)=wN0.topics:=rfl
 have f3:(List.replicate 8 (⟨0,0,0⟩:Mark))=wN0.marks:=rfl
 refine Or.inl ⟨[L wN0.peers,L wN0.topics,L wN0.marks,bb wC.1.up,I wC.1.inc,L wC.1.peers,L wC.1.topics,L wC.1.calls,I wC.1.pubs,I wC.1.asks,L wC.1.marks,L wC.1.taken,I wC.2,I wC.2,bb wC.1.up,I wC.1.inc,L wC.1.peers,L wC.1.topics,L wC.1.calls,I wC.1.pubs,I wC.1.asks,L wC.1.marks,L wC.1.taken,L wN0.peers,L wN0.topics,L wN0.marks],rfl,?_,?_⟩
 ·simp (disch:=omega) only[zn,xi,zo,e8,e4,f1,f2,f3,cC,and_self]
 simp only[app]
 simp only[cS,cP,cQ,cR,cU]
 obtain ⟨g1,g2,g3,g4,g5,g6,g7,g8,g9⟩:=wc1
 rw[g1,g2,g3,g4,g5,g6,g7,g8,g9]
 simp (disch:=first|omega|assumption|(constructor<;>first|assumption|omega)|simp only[LN];omega) only[↓SB,S1,↓Fi]
 simp
end Go.Xt
end
section
set_option linter.unusedSimpArgs false
set_option linter.unusedVariables false
set_option maxRecDepth 100000
namespace Go.Xt
set_option maxHeartbeats 4000000
def qe(n:Node)(k:Nat)(x:Topic)(i:Nat):Node:=cA n k { x with queue:=x.queue.drop i }
theorem Rx{n:Node}{k:Nat}{x:Topic}(h:n.topics[k]? =some x):qe n k x 0=n:=by
 unfold qe;rw[List.drop_zero];exact Oa h
theorem P6{n:Node}{k:Nat}{x:Topic}{i:Nat}(h:k<n.topics.length):be (qe n k x i) k={ x with queue:=x.queue.drop i }:=O9 h
theorem Ry{c:Config}{self:Int}{n:Node}{k:Nat}{x:Topic}{i:Nat}{y:Event}(h:aU c self n=0)(A:AtOk c self n k x)(hm:x.made=true)(hy:x.queue[i]? =some y):ke c self (qe n k x i) k=(qe n k x (i+1),y,0):=by
 have hi:=(List.getElem?_eq_some_iff.1 hy).1
 obtain ⟨h1,h2,h3,h4⟩:=Oc h A hm i (by omega)
 show ke c self (cA n k { x with queue:=x.queue.drop i }) k=_
 rw[Gt h4 (x:=y) (r:=x.queue.drop (i+1)) (by show (be (qe n k x i) k).queue=_;rw[P6 A.lt];exact ay hy)]
 have e:be (cA n k { x with queue:=x.queue.drop i }) k={ x with queue:=x.queue.drop i }:=O9 A.lt
 rw[e,Ml];rfl
theorem SJ{c:Config}{self:Int}{n:Node}{k:Nat}{x:Topic}(h:aU c self n=0)(A:AtOk c self n k x)(hm:x.made=true):ke c self (qe n k x x.queue.length) k=(bi,dw,10):=by
 obtain ⟨h1,h2,h3,h4⟩:=Oc h A hm x.queue.length (by omega)
 exact Mn h4 (by show (be (qe n k x x.queue.length) k).queue=_;rw[P6 A.lt];simp)
end Go.Xt
end
section
set_option linter.unusedSimpArgs false
set_option linter.unusedVariables false
set_option maxRecDepth 100000
namespace Go.Xt
set_option maxHeartbeats 4000000
theorem CK{self:Int}{n:Node}: ∀ {l r:List Msg},er self n l=some r→ ∀y∈r,∃x∈l,y=tB self n x
 | [],r,h,y,hy=>by simp[er] at h;subst h;simp at hy
 | x::l,r,h,y,hy=>by
  rw[er] at h
  split at h
  ·split at h
   ·obtain ⟨r2,h2,rfl⟩:=Option.map_eq_some_iff.1 h
    rcases List.mem_cons.1 hy with rfl | hy
    ·exact ⟨x,by simp,rfl⟩
    ·obtain ⟨z,h3,h4⟩:=CK h2 y hy
     exact ⟨z,by simp[h3],h4⟩
   ·cases h
  ·obtain ⟨z,h3,h4⟩:=CK h y hy
   exact ⟨z,by simp[h3],h4⟩
theorem PZ{self:Int}{n:Node}{l:List Msg}{y:Msg}(h:y∈mi self n l): ∃x∈l,y=tB self n x:=by
 unfold mi at h
 cases hg:er self n l with
 | none=>rw[hg] at h;simp at h
 | some r=>rw[hg] at h;exact CK hg y h
structure ROk (c:Config) (me:Int) (n:Node) (k:Int) (m:Node) (out:List Msg) (e:Int):Prop where
 no:e≠0→m=bi∧out=[]
 ok:e=0→aU c me m=0∧m.inc=n.inc
 out: ∀y∈out,y.frm=me∧y.topic=k∧(y.kind=7∨y.kind=10∨y.kind=11)
theorem Mv{self:Int}{m:Node}{l:List Msg}{k:Int}(h: ∀x∈l,x.topic=k∧(x.kind=7∨x.kind=10∨x.kind=11)): ∀y∈mi self m l,y.frm=self∧y.topic=k∧(y.kind=7∨y.kind=10∨y.kind=11):=by
 intro y hy
 obtain ⟨x,h1,rfl⟩:=PZ hy
 exact ⟨rfl,(h x h1).1,(h x h1).2⟩
theorem TU{c:Config}{self:Int}{n:Node}{k:Nat}{x:Topic}(A:AtOk c self n k x):AtOk c self { n with pubs:=n.pubs+1 } k x:=⟨A.get,A.ok,A.at_,A.lt⟩
theorem Q0{c:Config}{self:Int}{n:Node}{t v:Int}(hw:aU c self n=0)(ht:rng t 0 (c.topics-1)=true):ROk c self n t (ca c self n t v).1 (ca c self n t v).2.1 (ca c self n t v).2.2.2:=by
 obtain ⟨k,x,rfl,A⟩:=uh hw ht
 unfold ca
 split
 ·split
  ·rename_i hv
   unfold jt
   split
   ·exact ⟨fun _=>⟨rfl,rfl⟩,fun h=>by simp at h,by simp⟩
   ·rename_i hp
    have hw2:=SG hw (by omega)
    have A2:=TU A
    unfold OO
    simp only[A.at_]
    split
    ·split
     ·rename_i h0
      have hA:=Gp (JG hw ht A) hv h0
      refine ⟨fun h=>absurd rfl h,fun _=>⟨?_,rfl⟩,Mv fun y hy=>?_⟩
      ·rw[hA.eq];exact Mm hw2 A.lt hA.ok
      ·rw[hA.eq] at hy;have:=yM hy;exact ⟨this.2.2.2,.inl this.2.2.1⟩
     ·rename_i h0;exact ⟨fun _=>⟨rfl,rfl⟩,fun h=>absurd h h0,by simp⟩
    ·refine ⟨fun h=>absurd rfl h,fun _=>⟨hw2,rfl⟩,Mv fun y hy=>?_⟩
     rw[List.mem_singleton] at hy;subst hy
     exact ⟨rfl,.inr (.inl rfl)⟩
  ·exact ⟨fun _=>⟨rfl,rfl⟩,fun h=>by simp at h,by simp⟩
 ·rename_i h;exact ⟨fun _=>⟨rfl,rfl⟩,fun h1=>absurd h1 h,by simp⟩
end Go.Xt
end
section
set_option linter.unusedSimpArgs false
set_option linter.unusedVariables false
set_option maxRecDepth 100000
namespace Go.Xt
set_option maxHeartbeats 4000000
def aC(l:Int):Config:=⟨1,4,2,8,8,8,l⟩
def aN0:Node:=⟨true,1,List.replicate 1 ⟨0,0⟩,List.replicate 4 fp,[],0,0,List.replicate 1 ⟨0,0,0⟩,[]⟩
def aN1(t l:Int):Node:=(fK (aC l) 0 aN0 t).1
def aN2(t l:Int):Node:=(fG (aC l) 0 (aN1 t l) t true 8).1
def aNx(t l:Int)(i:Nat)(n:Node):Node:=(ca (aC l) 0 n t (7*i)).1
def aAt(t l:Int):Nat→Node
 | 0=>aN2 t l
 | i+1=>aNx t l i (aAt t l i)
def aQ(l:Int)(i:Nat):List Event :=
 ((List.range (min i (l.toNat-1))).map fun (j:Nat)=>(⟨1,16,(j:Int)+1,0,7*(j:Int),0⟩:Event))++(if l.toNat≤i then [⟨2,16,l,i,0,0⟩] else [])
def aOk(t l:Int)(i:Nat)(n:Node):Bool:=decide ((ca (aC l) 0 n t (7*i)).2=([],(i:Int)+1,0))&&(be n t).made&&decide ((be n t).queue=aQ l i)
def SK(t l:Int):Nat→Nat→Node→Bool
 | 0,_,_=>true
 | f+1,i,n=>aOk t l i n&&SK t l f (i+1) (aNx t l i n)
theorem Mw{t l:Int}: ∀(f i:Nat),SK t l f i (aAt t l i)=true→ ∀d,d<f→aOk t l (i+d) (aAt t l (i+d))=true
 | 0,_,_,d,h=>by omega
 | f+1,i,h,d,hd=>by
  rw[SK,Bool.and_eq_true] at h
  cases d with
  | zero=>exact h.1
  | succ d =>
   have:=Mw f (i+1) h.2 d (by omega)
   rw[show i+1+d=i+(d+1) by omega] at this;exact this
def aP(t:Int)(l:Nat):Prop:=((fK (aC (2+(l:Int))) 0 aN0 t).2=0∧(fG (aC (2+(l:Int))) 0 (aN1 t (2+(l:Int))) t true 8).2=0∧aU (aC (2+(l:Int))) 0 (aN2 t (2+(l:Int)))=0∧aI aN0=false∧aI (aN1 t (2+(l:Int)))=false)∧SK t (2+(l:Int)) 50 0 (aN2 t (2+(l:Int)))=true
instance (t:Int) (l:Nat):Decidable (aP t l):=by unfold aP;infer_instance
theorem Uu: ∀l:Fin 8,aP 0 (0+l.val):=by decide +kernel
theorem Uv: ∀l:Fin 8,aP 0 (8+l.val):=by decide +kernel
theorem Uw: ∀l:Fin 8,aP 0 (16+l.val):=by decide +kernel
theorem Ux: ∀l:Fin 7,aP 0 (24+l.val):=by decide +kernel
theorem Uy: ∀l:Fin 8,aP 1 (0+l.val):=by decide +kernel
theorem Uz: ∀l:Fin 8,aP 1 (8+l.val):=by decide +kernel
theorem UA: ∀l:Fin 8,aP 1 (16+l.val):=by decide +kernel
theorem UB: ∀l:Fin 7,aP 1 (24+l.val):=by decide +kernel
theorem UC: ∀l:Fin 8,aP 2 (0+l.val):=by decide +kernel
theorem UD: ∀l:Fin 8,aP 2 (8+l.val):=by decide +kernel
theorem UE: ∀l:Fin 8,aP 2 (16+l.val):=by decide +kernel
theorem UF: ∀l:Fin 7,aP 2 (24+l.val):=by decide +kernel
theorem UG: ∀l:Fin 8,aP 3 (0+l.val):=by decide +kernel
theorem UH: ∀l:Fin 8,aP 3 (8+l.val):=by decide +kernel
theorem UI: ∀l:Fin 8,aP 3 (16+l.val):=by decide +kernel
theorem UJ: ∀l:Fin 7,aP 3 (24+l.val):=by decide +kernel
theorem a_l{t:Int}(h0: ∀l:Fin 8,aP t (0+l.val))(h1: ∀l:Fin 8,aP t (8+l.val))(h2: ∀l:Fin 8,aP t (16+l.val))(h3: ∀l:Fin 7,aP t (24+l.val)){l:Nat}(hl:l<31):aP t l:=by
 by_cases c1:l<8
 ·have:=h0 ⟨l,c1⟩;rwa [Nat.zero_add] at this
 by_cases c2:l<16
 ·have:=h1 ⟨l-8,by omega⟩;simp only at this;rwa [show 8+(l-8)=l by omega] at this
 by_cases c3:l<24
 ·have:=h2 ⟨l-16,by omega⟩;simp only at this;rwa [show 16+(l-16)=l by omega] at this
 ·have:=h3 ⟨l-24,by omega⟩;simp only at this;rwa [show 24+(l-24)=l by omega] at this
theorem SS{t l:Nat}(ht:t<4)(hl:l<31):aP t l:=by
 match t,ht with
 | 0,_=>exact a_l Uu Uv Uw Ux hl
 | 1,_=>exact a_l Uy Uz UA UB hl
 | 2,_=>exact a_l UC UD UE UF hl
 | 3,_=>exact a_l UG UH UI UJ hl
end Go.Xt
end
section
set_option linter.unusedSimpArgs false
set_option linter.unusedVariables false
set_option maxRecDepth 100000
namespace Go.Xt
set_option linter.defProp false
set_option maxHeartbeats 4000000
theorem P7{t l:Nat}(ht:t<4)(hl:l<31):(fK (aC (2+(l:Int))) 0 aN0 t).2=0∧(fG (aC (2+(l:Int))) 0 (aN1 t (2+(l:Int))) t true 8).2=0∧aU (aC (2+(l:Int))) 0 (aN2 t (2+(l:Int)))=0∧aI aN0=false∧aI (aN1 t (2+(l:Int)))=false:=by
 have h:=SS ht hl
 unfold aP at h
 exact h.1
theorem UK{t l i:Nat}(ht:t<4)(hl:l<31)(hi:i<50):aOk t (2+(l:Int)) i (aAt t (2+(l:Int)) i)=true:=by
 have h:=SS ht hl
 unfold aP at h
 have:=Mw (t:=t) (l:=2+(l:Int)) 50 0 h.2 i hi
 rwa [Nat.zero_add] at this
theorem Rz{t l:Nat}(ht:t<4):rng (t:Int) 0 ((aC (2+(l:Int))).topics-1)=true:=by
 show rng (t:Int) 0 (4-1)=true
 unfold rng
 rw[Bool.and_eq_true,decide_eq_true_eq,decide_eq_true_eq];omega
theorem ST{t l:Nat}(ht:t<4)(hl:l<31): ∀ {i:Nat},i≤50→aU (aC (2+(l:Int))) 0 (aAt t (2+(l:Int)) i)=0
 | 0,_=>(P7 ht hl).2.2.1
 | i+1,hi=>by
  have ih:=ST ht hl (i:=i) (by omega)
  have hok:=UK ht hl (i:=i) (by omega)
  simp only[aOk,Bool.and_eq_true,decide_eq_true_eq] at hok
  have hR:=Q0 (v:=7*(i:Int)) ih (Rz (l:=l) ht)
  exact (hR.ok (by rw[hok.1.1])).1
def Mx(n len i:Nat):Int:=if i=len then (n:Int)+1 else (i:Int)+1
theorem TV{l n:Nat}(hl:l<31):(aQ (2+(l:Int)) n).length=if n<l+2 then n else l+2:=by
 have e:(2+(l:Int)).toNat=l+2:=by omega
 unfold aQ
 rw[e]
 rw[List.length_append,List.length_map,List.length_range]
 by_cases h:n<l+2
 ·rw[if_pos h,if_neg (by omega)];simp;omega
 ·rw[if_neg h,if_pos (by omega)];simp;omega
theorem SL{l n i:Nat}(h1:i<l+1)(h2:i<n):(aQ (2+(l:Int)) n)[i]? =some ⟨1,16,(i:Int)+1,0,7*(i:Int),0⟩:=by
 have e:(2+(l:Int)).toNat=l+2:=by omega
 unfold aQ
 rw[e]
 have h3:i<((List.range (min n (l+2-1))).map fun (j:Nat)=>(⟨1,16,(j:Int)+1,0,7*(j:Int),0⟩:Event)).length:=by rw[List.length_map,List.length_range];omega
 rw[List.getElem?_append_left h3,List.getElem?_map,List.getElem?_range (by omega)]
 rfl
theorem TW{l n:Nat}(h:l+2≤n):(aQ (2+(l:Int)) n)[l+1]? =some ⟨2,16,2+(l:Int),n,0,0⟩:=by
 have e:(2+(l:Int)).toNat=l+2:=by omega
 unfold aQ
 rw[e,if_pos h,List.getElem?_append_right (by simp;omega)]
 have:l+1-((List.range (min n (l+2-1))).map fun (j:Nat)=>(⟨1,16,(j:Int)+1,0,7*(j:Int),0⟩:Event)).length=0:=by rw[List.length_map,List.length_range];omega
 rw[this];rfl
def aX:=And.intro @re (And.intro @nV (And.intro @kO (And.intro @mD (And.intro @rh (@vn)))))
theorem wn(t:Int)(limit:Int)(n:Int):WW ρ 3 jU dF (t,limit,n):=by
 simp only[dF,RR]
 unfold jU
 have e8:(1:Int).toNat=1:=rfl
 have e4:(4:Int).toNat=4:=rfl
 have k1:0≤u64 t % 4∧u64 t % 4<4:=⟨Int.emod_nonneg _ (by omega),Int.emod_lt_of_pos _ (by omega)⟩
 have k2:0≤u64 limit % 31∧u64 limit % 31<31:=⟨Int.emod_nonneg _ (by omega),Int.emod_lt_of_pos _ (by omega)⟩
 have k3:0≤u64 n % 50∧u64 n % 50<50:=⟨Int.emod_nonneg _ (by omega),Int.emod_lt_of_pos _ (by omega)⟩
 simp (disch:=first|omega|assumption|(constructor<;>first|assumption|omega)|simp only[LN];omega) only[↓SB,S1,↓aX]
 generalize u64 t % 4=T at k1 ⊢
 generalize u64 limit % 31=M at k2 ⊢
 generalize u64 n % 50=K at k3 ⊢
 obtain ⟨t,rfl⟩:=Int.eq_ofNat_of_zero_le k1.1
 obtain ⟨l,rfl⟩:=Int.eq_ofNat_of_zero_le k2.1
 obtain ⟨n,rfl⟩:=Int.eq_ofNat_of_zero_le k3.1
 have ht:t<4:=by omega
 have hl:l<31:=by omega
 have hn:n<50:=by omega
 refine SUB.v3 (L aN0.marks) (L aN0.topics) (L aN0.peers) ?_ ?_
 ·simp (disch:=first|omega|assumption|(constructor<;>first|assumption|omega)|simp only[LN];omega) only[↓SB,S1,↓aX,e8,e4,and_self]
  rfl
 obtain ⟨a1,a2,a3,a4,a5⟩:=P7 ht hl
 have b1:aI ⟨true,1,aN0.peers,aN0.topics,[],0,0,aN0.marks,[]⟩=false:=a4
 have hC:fK ⟨1,4,2,8,8,8,2+(l:Int)⟩ 0 ⟨true,1,aN0.peers,aN0.topics,[],0,0,aN0.marks,[]⟩ t=(aN1 t (2+(l:Int)),0):=Prod.ext rfl a1
 have hS:fG ⟨1,4,2,8,8,8,2+(l:Int)⟩ 0 (aN1 t (2+(l:Int))) t true 8=(aN2 t (2+(l:Int)),0):=Prod.ext rfl a2
 simp (disch:=first|omega|assumption|(constructor<;>first|assumption|omega)|simp only[LN];omega) only[↓SB,S1,↓aX,hC,hS]
 refine SUB.v1 (bb false) ?_ ?_
 ·simp (disch:=first|omega|assumption|(constructor<;>first|assumption|omega)|simp only[LN];omega) only[↓SB,S1,↓aX]
 simp (disch:=first|omega|assumption|(constructor<;>first|assumption|omega)|simp only[LN];omega) only[↓SB,S1,↓aX]
 refine ax.rule (α:=Nat) (fun i=>[I i,bb (aAt t (2+(l:Int)) i).up,I (aAt t (2+(l:Int)) i).inc,L (aAt t (2+(l:Int)) i).peers,L (aAt t (2+(l:Int)) i).topics,L (aAt t (2+(l:Int)) i).calls,I (aAt t (2+(l:Int)) i).pubs,I (aAt t (2+(l:Int)) i).asks,L (aAt t (2+(l:Int)) i).marks,L (aAt t (2+(l:Int)) i).taken]) (fun i=>i≤n) (fun i=>n-i) 0 rfl (by omega) (fun _=>rfl) ?_
 intro i hi
 simp only[app]
 have hwi:=ST ht hl (i:=i) (by omega)
 have hli:aI (aAt t (2+(l:Int)) i)=false:=Gs hwi
 have hok:=UK ht hl (i:=i) (by omega)
 simp only[aOk,Bool.and_eq_true,decide_eq_true_eq] at hok
 obtain ⟨⟨o1,o2⟩,o3⟩:=hok
 have hP:ca ⟨1,4,2,8,8,8,2+(l:Int)⟩ 0 (aAt t (2+(l:Int)) i) t (7*(i:Int))=(aAt t (2+(l:Int)) (i+1),[],(i:Int)+1,0):=Prod.ext rfl o1
 have h7: ∀k,OP (.bin .mul) [I 7,I i] k=k (I (7*(i:Int))):=fun k=>aH (by simp only[ev,lc];rw[wr (by omega) (by omega)];rfl)
 simp (disch:=first|omega|assumption|(constructor<;>first|assumption|omega)|simp only[LN];omega) only[↓SB,S1,↓aX,h7,hP]
 refine ⟨fun h4=>⟨fun h=>absurd h (by simp),fun _=>⟨i+1,by simp,by omega,by omega⟩⟩,fun h4=>?_⟩
 have hie:i=n:=by omega
 subst hie
 clear hP h7 o1
 obtain ⟨k,x,hk,A⟩:=uh hwi (Rz (l:=l) ht)
 obtain rfl:t=k:=by omega
 rw[A.at_] at o2 o3
 have hql:=TV (n:=i) hl
 rw[←o3] at hql
 have hrt:=Rz (l:=l) ht
 refine ax.rule (α:=Nat) (fun j=>[I (Mx i x.queue.length j),bb (qe (aAt t (2+(l:Int)) i) t x j).up,I (qe (aAt t (2+(l:Int)) i) t x j).inc,L (qe (aAt t (2+(l:Int)) i) t x j).peers,L (qe (aAt t (2+(l:Int)) i) t x j).topics,L (qe (aAt t (2+(l:Int)) i) t x j).calls,I (qe (aAt t (2+(l:Int)) i) t x j).pubs,I (qe (aAt t (2+(l:Int)) i) t x j).asks,L (qe (aAt t (2+(l:Int)) i) t x j).marks,L (qe (aAt t (2+(l:Int)) i) t x j).taken]) (fun j=>j≤x.queue.length) (fun j=>x.queue.length-j) 0 ?_ (by omega) (fun _=>rfl) ?_
 ·rw[Rx A.get]
  have:Mx i x.queue.length 0=1:=by
   unfold Mx
   split
   ·rename_i h;rw[←h] at hql;split at hql<;>omega
   ·rfl
  rw[this]
 intro j hj
 simp only[app]
 obtain ⟨g1,g2,g3,g4⟩:=Oc hwi A o2 j hj
 have g5:aI (qe (aAt t (2+(l:Int)) i) t x j)=false:=Gs g1
 by_cases hje:j=x.queue.length
 ·have e1:Mx i x.queue.length j=i+1:=if_pos hje
  have hE:ke ⟨1,4,2,8,8,8,2+(l:Int)⟩ 0 (qe (aAt t (2+(l:Int)) i) t x j) t=(bi,dw,10):=by rw[hje];exact SJ hwi A o2
  rw[e1]
  simp (disch:=first|omega|assumption|(constructor<;>first|assumption|omega)|simp only[LN];omega) only[↓SB,S1,↓aX,hE]
  exact fun h=>absurd h (by omega)
 ·have e1:Mx i x.queue.length j=j+1:=if_neg hje
  have hlen:x.queue.length≤i:=by rw[hql];split<;>omega
  obtain ⟨y,hy⟩:=ak (xs:=x.queue) (i:=j) (by omega)
  have hE:ke ⟨1,4,2,8,8,8,2+(l:Int)⟩ 0 (qe (aAt t (2+(l:Int)) i) t x j) t=(qe (aAt t (2+(l:Int)) i) t x (j+1),y,0):=Ry hwi A o2 hy
  have h7: ∀k,OP (.bin .mul) [I 7,I j] k=k (I (7*(j:Int))):=fun k=>aH (by simp only[ev,lc];rw[wr (by omega) (by omega)];rfl)
  rw[e1]
  rw[o3] at hy
  by_cases hjl:j<l+1
  ·rw[SL hjl (by omega)] at hy
   cases hy
   have hsub:(j:Int)+1-1=j:=by omega
   simp (disch:=first|omega|assumption|(constructor<;>first|assumption|omega)|simp only[LN];omega) only[↓SB,S1,↓aX,hE,hsub,h7]
   refine ⟨fun _=>?_,fun h=>absurd (show (j:Int)+1≤i by omega) h⟩
   refine SUB.v1 (bb false) ?_ ?_
   ·simp (disch:=first|omega|assumption|(constructor<;>first|assumption|omega)|simp only[LN];omega) only[↓SB,S1,↓aX]
   simp (disch:=first|omega|assumption|(constructor<;>first|assumption|omega)|simp only[LN];omega) only[↓SB,S1,↓aX,hsub,h7]
   refine ⟨fun _=>⟨j+1,?_,by omega,by omega⟩,fun h=>absurd (show (j:Int)+1<2+l by omega) h⟩
   have:Mx i x.queue.length (j+1)=(j:Int)+1+1:=by
    unfold Mx
    split
    ·rename_i h;rw[←h] at hql;split at hql<;>omega
    ·omega
   rw[this]
  ·have hle2:x.queue.length≤l+2:=by rw[hql];split<;>omega
   have hjl2:j=l+1:=by omega
   have hll:l+2≤i:=by omega
   rw[hjl2,TW hll] at hy
   cases hy
   simp (disch:=first|omega|assumption|(constructor<;>first|assumption|omega)|simp only[LN];omega) only[↓SB,S1,↓aX,hE,h7]
   refine ⟨fun _=>?_,fun h=>absurd (show (j:Int)+1≤i by omega) h⟩
   refine SUB.v1 (bb false) ?_ ?_
   ·simp (disch:=first|omega|assumption|(constructor<;>first|assumption|omega)|simp only[LN];omega) only[↓SB,S1,↓aX]
    exact fun h=>absurd (by omega) h
   simp (disch:=first|omega|assumption|(constructor<;>first|assumption|omega)|simp only[LN];omega) only[↓SB,S1,↓aX]
   refine ⟨fun h=>absurd h (by omega),fun _=>?_⟩
   refine ⟨j+1,?_,by omega,by omega⟩
   have:Mx i x.queue.length (j+1)=(i:Int)+1:=if_pos (by rw[hql];split<;>omega)
   rw[this]
end Go.Xt
end
section
set_option linter.unusedSimpArgs false
set_option linter.unusedVariables false
set_option maxRecDepth 100000
namespace Go.Xt
set_option linter.defProp false
set_option maxHeartbeats 4000000
theorem My: ∀(l:List Item) (w:Int),dQ w l=l.take (dQ w l).length
 | [],w=>by simp[dQ]
 | x::r,w=>by
  by_cases h:x.seq=w
  ·have e:dQ w (x::r)=x::dQ (w+1) r:=by rw[dQ,if_pos h]
   rw[e,List.length_cons,List.take_succ_cons,←My r (w+1)]
  ·have e:dQ w (x::r)=[]:=by rw[dQ,if_neg h]
   rw[e];rfl
def ysL(s:Stream)(v:Int):List Item:=⟨s.want,v⟩::br s.ahead (s.want+1)
def yR(c:Config)(s:Stream)(sub:Bool)(q:List Event)(v:Int)(i:Nat):Stream×List Event×List Item:=eg c sub (s,q,[]) ((ysL s v).take i)
structure YAt (c:Config) (s:Stream) (sub:Bool) (q:List Event) (v:Int) (i:Nat) (y:Item) (r:Stream×List Event×List Item):Prop where
 get:(ysL s v)[i]? =some y
 seq:y.seq=s.want+i
 val:val y.value=true
 lt:s.want+i<1073741824
 inv:SInv c r.1 r.2.1
 want:r.1.want=s.want+i
 epoch:r.1.epoch=s.epoch
 on:r.2.2.length=i
 next:yR c s sub q v (i+1)=fF c sub r y.value
theorem UZ{c:Config}{s:Stream}{sub:Bool}{q:List Event}{v:Int}(h:FOk c s q)(hv:val v=true)(hw:s.want<1073741824){i:Nat}(hi:i≤(br s.ahead (s.want+1)).length) :
  ∃y,YAt c s sub q v i y (yR c s sub q v i):=by
 have H:=xM (sub:=sub) h hv hw
 have hys:Jx s.want (ysL s v):=⟨rfl,hv,hw,H.seq⟩
 have hlen:(ysL s v).length=(br s.ahead (s.want+1)).length+1:=rfl
 obtain ⟨y,hy⟩:=ak (xs:=ysL s v) (i:=i) (by omega)
 have h1:=AG hys hy
 have hf:=xL (c:=c) (sub:=sub) (l:=(ysL s v).take i) (r:=(s,q,[])) (CA i hys) h.inv
 have hl:((ysL s v).take i).length=i:=by rw[List.length_take];omega
 refine ⟨y,hy,h1.1,h1.2.1,h1.2.2,hf.1,?_,hf.2.2.2.1,?_,Gn hy⟩
 ·have:=hf.2.1;rw[hl] at this;exact this
 ·show (eg c sub (s,q,[]) ((ysL s v).take i)).2.2.length=i
  rw[hf.2.2.2.2];simpa using hl
theorem TX{s:Stream}{c:Config}{q:List Event}{v:Int}(h:FOk c s q){i:Nat}(hi:i≤(br s.ahead (s.want+1)).length) :
  br s.ahead (s.want+1)=dQ (s.want+1) s.ahead∧qu s.ahead (s.want+1)=s.ahead.drop (br s.ahead (s.want+1)).length ∧
  (∀y,s.ahead[i]? =some y→(y.seq=s.want+1+i↔i<(br s.ahead (s.want+1)).length)) ∧
  (∀y,s.ahead[i]? =some y→i<(br s.ahead (s.want+1)).length→(ysL s v)[i+1]? =some y)∧(br s.ahead (s.want+1)).length≤s.ahead.length:=by
 have hb:=Jw h.ahd
 have e1:tD s.ahead (s.want+1)=s.ahead:=Cy fun x hx=>by have:=(hb x hx).1;omega
 have e2:br s.ahead (s.want+1)=dQ (s.want+1) s.ahead:=by rw[br,e1]
 have hr:=Cz (m:=s.want+c.window) (l:=s.ahead) (w:=s.want+1) (by rw[show s.want+1-1=s.want by omega];exact h.ahd)
 have ht:=My s.ahead (s.want+1)
 refine ⟨e2,by rw[qu,e1],?_,?_,by rw[e2];exact hr.2.2.2⟩
 ·intro y hy
  constructor
  ·intro hs
   apply Classical.byContradiction
   intro hlt
   have hie:i=(dQ (s.want+1) s.ahead).length:=by rw[e2] at hi hlt;omega
   have:=hr.2.2.1 y (by rw[←hie,List.head?_drop,hy];simp)
   rw[←hie] at this
   exact this hs
  ·intro hlt
   rw[e2] at hlt
   have:(dQ (s.want+1) s.ahead)[i]? =some y:=by rw[ht,List.getElem?_take,if_pos hlt];exact hy
   exact (AG hr.1 this).1
 ·intro y hy hlt
  show (br s.ahead (s.want+1))[i]? =some y
  rw[e2] at hlt ⊢
  rw[ht,List.getElem?_take,if_pos hlt];exact hy
def gz:=And.intro @nU (And.intro @aY (And.intro @vk (And.intro @Lr (And.intro @Iv (@Ln)))))
theorem JH(c:Config)(s:Stream)(sub:Bool)(q:List Event)(epoch:Int)(x:Item)(hp:bC c=true∧dv c s q=true∧epoch=s.epoch∧ep epoch=true∧x.seq=s.want∧s.want<1073741823∧val x.value=true)(hg:ag (gv (c,s,sub,q,epoch,x)).2.1):WW ρ 17 sc gv (c,s,sub,q,epoch,x):=by
 simp only[gv,RR] at hg ⊢
 unfold sc
 obtain ⟨hc,hf,rfl,he,hs,hw,hv⟩:=hp
 have hF:=CB hf he
 have hb:=Jz hF.inv
 have hal:=CF hF
 have hcb:=fa hc
 have hkn:=hF.inv.known
 have hcw:=se hF.cw
 simp only[ag,cj,aV] at hg
 simp (disch:=first|omega|assumption|(constructor<;>first|assumption|omega)|simp only[LN];omega) only[↓SB,S1,↓gz]
 refine ⟨fun h=>absurd h (by omega),fun _=>?_⟩
 refine SUB.val [I s.epoch,I s.want,I s.known,L s.kept,L s.ahead] rfl ?_ ?_
 ·simp (disch:=first|omega|assumption|(constructor<;>first|assumption|omega)|simp only[LN];omega) only[↓SB,S1,↓gz]
  exact fun h=>absurd h (by omega)
 simp only[app]
 simp (disch:=first|omega|assumption|(constructor<;>first|assumption|omega)|simp only[LN];omega) only[↓SB,S1,↓gz]
 refine ⟨fun _=>?_,fun h=>absurd hs h⟩
 refine ax.rule (α:=Nat) (fun i=>[L (yR c s sub q x.value i).2.1,L q,L q,I (s.want+i),I ((ysL s x.value).getD i ⟨0,0⟩).value,I (yR c s sub q x.value i).1.want,I (yR c s sub q x.value i).1.known,L (yR c s sub q x.value i).1.kept,L (s.ahead.drop i),L (yR c s sub q x.value i).2.2]) (fun i=>i≤(br s.ahead (s.want+1)).length) (fun i=>(br s.ahead (s.want+1)).length-i) 0 (by show _=[L q,L q,L q,I (s.want+0),I x.value,I s.want,I s.known,L s.kept,L s.ahead,L []];rw[Int.add_zero];rfl) (by omega) (fun _=>rfl) ?_
 intro i hi
 simp only[app]
 obtain ⟨y,Y⟩:=UZ (sub:=sub) hF hv (by omega) hi
 obtain ⟨z1,z2,z3,z4,z5⟩:=TX (v:=x.value) hF hi
 have hgd:(ysL s x.value).getD i ⟨0,0⟩=y:=by rw[List.getD_eq_getElem?_getD,Y.get];rfl
 rw[hgd]
 have hnx:=Y.next
 have hE:i=(br s.ahead (s.want+1)).length→cm c s sub q x.value=({ (yR c s sub q x.value (i+1)).1 with ahead:=qu s.ahead (s.want+1) },(yR c s sub q x.value (i+1)).2):=by
  intro hie
  have:(ysL s x.value).take (i+1)=ysL s x.value:=List.take_of_length_le (by show (br s.ahead (s.want+1)).length+1≤i+1;omega)
  unfold yR;rw[this];rfl
 rw[hnx] at hE
 generalize hr:yR c s sub q x.value i=r at Y hE hnx ⊢
 have hib:=Jz Y.inv
 have hrw:=Y.want
 have hro:=Y.on
 have hrk:=Y.inv.known
 have hlt:=Y.lt
 have hp1:r.1.kept.length≤1000∧0≤c.keep∧c.keep≤1000:=by omega
 have hp2:bd r.2.1 c.queue=true∧dL ⟨1,s.epoch,s.want+i,0,y.value,0⟩=true:=by
  refine ⟨Y.inv.queue,?_⟩
  unfold dL
  rw[if_pos rfl,he,Y.val]
  simp[cnt,rng];omega
 simp (disch:=first|omega|assumption|(constructor<;>first|assumption|omega)|simp only[LN];omega) only[↓SB,S1,↓gz,↓da (a_seq:=s.want+i)]
 refine SUB.v1 (L (fF c sub r y.value).2.1) ?_ ?_
 ·cases hsub:sub
  ·simp (disch:=first|omega|assumption|(constructor<;>first|assumption|omega)|simp only[LN];omega) only[↓SB,S1,↓gz]
   rfl
  ·simp (disch:=first|omega|assumption|(constructor<;>first|assumption|omega)|simp only[LN];omega) only[↓SB,S1,↓gz]
   simp[fF,Y.epoch,hrw]
 have hfin:i=(br s.ahead (s.want+1)).length→[I s.epoch,I (r.1.want+1),I (max r.1.known (r.1.want+1)),L (tC r.1.kept r.1.want c.keep y.value),L (s.ahead.drop i),L (fF c sub r y.value).2.1,L (r.2.2++[(⟨s.want+i,y.value⟩:Item)])]=[I (cm c s sub q x.value).1.epoch,I (cm c s sub q x.value).1.want,I (cm c s sub q x.value).1.known,L (cm c s sub q x.value).1.kept,L (cm c s sub q x.value).1.ahead,L (cm c s sub q x.value).2.1,L (cm c s sub q x.value).2.2]:=by
  intro hie
  rw[hE hie,z2,←hie]
  simp[fF,Y.epoch,hrw]
 refine ⟨fun h1=>hfin (by simp at h1;omega),fun h1=>?_⟩
 have hil:(i:Int)<s.ahead.length:=by simp at h1;omega
 obtain ⟨u,hu⟩:=ak hil
 have hu0:(s.ahead.drop i)[0]? =some u:=by simpa using hu
 have huc: ∀j,(L (s.ahead.drop i)).cellAt (I 0) j=look (Row.row u) j:=fun j=>af (i:=0) hu0
 have hdl:0<(s.ahead.drop i).length:=by simp;omega
 have h3:=z3 u hu
 simp (disch:=first|omega|assumption|(constructor<;>first|assumption|omega)|simp only[LN];omega) only[↓SB,S1,↓gz,huc]
 refine ⟨fun h4=>hfin ?_,fun h4=>?_⟩
 ·have: ¬u.seq=s.want+1+i:=fun h5=>h4 (by omega)
  rw[h3] at this;omega
 ·have hlt2:i<(br s.ahead (s.want+1)).length:=h3.1 (by omega)
  have h5:=z4 u hu hlt2
  refine ⟨i+1,?_,by omega,by omega⟩
  rw[hnx,List.getD_eq_getElem?_getD,h5]
  simp[fF,hrw]
  omega
def om:=And.intro @BW (And.intro @Iw (@EA))
theorem CL(c:Config)(t:Int)(self:Int)(x:Topic)(value:Int)(hp:uP c t self x=0∧val value=true)(hg:ag (dE (c,t,self,x,value)).2.1):WW ρ 26 oe dE (c,t,self,x,value):=by
 simp only[dE,RR] at hg ⊢
 unfold oe
 obtain ⟨hp,hv⟩:=hp
 obtain ⟨h1,h2,h3⟩:=xK hp
 have hl:=oO h1 h3
 have hb:=O5 h3
 have hpl:=xy h1 h2
 have hne:ck x=false∧isN self=true∧0≤x.top∧x.top≤1073741824:=⟨hl,hpl.2.1,hb.1,hb.2.1⟩
 by_cases he:(ao self x).2=0
 ·have hB:=yL hp he
  by_cases hw:1073741823≤(ao self x).1.stream.want
  ·rw[zH he hw]
   simp (disch:=first|omega|assumption|(constructor<;>first|assumption|omega)|simp only[LN];omega) only[↓SB,S1,↓om,he]
   simp[fp,L,hw]
  ·rw[Gu he hw]
   have hon:=JC (sub:=(ao self x).1.sub) hB.flow hv (by omega)
   have hkl:=xN hB.ok
   have hpf:bC c=true∧dv c (ao self x).1.stream (ao self x).1.queue=true∧(ao self x).1.stream.epoch=(ao self x).1.stream.epoch∧ep (ao self x).1.stream.epoch=true∧(ao self x).1.stream.want=(ao self x).1.stream.want∧(ao self x).1.stream.want<1073741823∧val value=true:=⟨h1,hB.flow.flow,rfl,by rw[hB.epoch];exact hB.ep,rfl,by omega,hv⟩
   simp (disch:=first|omega|assumption|(constructor<;>first|assumption|omega)|simp only[LN];omega) only[↓SB,S1,↓om,he]
   exact fun h=>absurd h hw
 ·rw[CG he]
  simp (disch:=first|omega|assumption|(constructor<;>first|assumption|omega)|simp only[LN];omega) only[↓SB,S1,↓om,he]
  simp[fp,L]
end Go.Xt
end
section
set_option linter.unusedSimpArgs false
set_option linter.unusedVariables false
set_option maxRecDepth 100000
namespace Go.Xt
set_option linter.defProp false
set_option maxHeartbeats 4000000
def gE:=And.intro @qy (And.intro @vf (And.intro @BX (And.intro @Ey (And.intro @xl (@xq)))))
theorem An(c:Config)(self:Int)(n:Node)(t:Int)(value:Int)(hp:aI n=false∧bm c self n t=0∧val value=true)(hg:ag (df (c,self,n,t,value)).2.1):WW ρ 19 mQ df (c,self,n,t,value):=by
 simp only[df,RR] at hg ⊢
 unfold mQ
 obtain ⟨hp,ht,hv⟩:=hp
 simp only[ag,cj,aV] at hg
 generalize hE:jt c self n t value=q
 unfold jt at hE
 have hhb:=og hp
 obtain ⟨h1,h2⟩:=lL ht
 obtain ⟨k,x,rfl,A⟩:=uh h1 h2
 have hlt:=A.lt
 have htw:=JG h1 h2 A
 obtain ⟨hc,hs,hu,H⟩:=dI h1
 have hpb:=aZ H.pubs
 have hsb:=aZ hs
 have hpl:=H.pl
 have hplb:=qB H.peers
 have hit:=(Rv h1 h2).2.2
 have hcz:=Co H.peers hsb.1 (by omega)
 have hcz2:=uK hcz
 have hlen:(ib n.peers self).length≤1000:=by have:=Mj (self:=self) n.peers 0;unfold ib;omega
 have hcn:isT (k:Int)=true∧zT (ib n.peers self) self=0:=⟨hit,hcz⟩
 have hoN:isT (k:Int)=true∧(ib n.peers self).all isN=true:=⟨hit,hcz2.1.1⟩
 have hoR:=SD hit hcz2.1.1 hcz2.2.1.2.2
 have hta:uP c k self x=0∧val value=true:=⟨htw,hv⟩
 have hao:=CI (v:=value) htw hv
 simp (disch:=first|omega|assumption|(constructor<;>first|assumption|omega)|simp only[LN];omega) only[↓SB,S1,↓gE]
 refine ⟨fun h4=>?_,fun h4=>?_⟩
 ·rw[if_pos h4] at hE;rw[←hE];simp[bi,L]
 rw[if_neg h4] at hE
 unfold OO at hE
 simp only[A.at_] at hE
 refine ⟨fun h5=>?_,fun h5=>?_⟩
 ·have h5':G9 self k (ib n.peers self)=true:=by simp[G9,hoR,h5]
  rw[if_pos h5'] at hE
  refine SUB.val [bb x.made,bb x.sub,I x.top,I x.root,I x.parent,I x.asked,I x.other,I x.age,L x.path,L x.kids,I x.stream.epoch,I x.stream.want,I x.stream.known,L x.stream.kept,L x.stream.ahead,L x.queue,bb (au c k self x value).1.made,bb (au c k self x value).1.sub,I (au c k self x value).1.top,I (au c k self x value).1.root,I (au c k self x value).1.parent,I (au c k self x value).1.asked,I (au c k self x value).1.other,I (au c k self x value).1.age,L (au c k self x value).1.path,L (au c k self x value).1.kids,I (au c k self x value).1.stream.epoch,I (au c k self x value).1.stream.want,I (au c k self x value).1.stream.known,L (au c k self x value).1.stream.kept,L (au c k self x value).1.stream.ahead,L (au c k self x value).1.queue,L (au c k self x value).2.1,I (au c k self x value).2.2,L (au c k self x value).2.1,I (au c k self x value).2.2,bb (au c k self x value).1.made,bb (au c k self x value).1.sub,I (au c k self x value).1.top,I (au c k self x value).1.root,I (au c k self x value).1.parent,I (au c k self x value).1.asked,I (au c k self x value).1.other,I (au c k self x value).1.age,L (au c k self x value).1.path,L (au c k self x value).1.kids,I (au c k self x value).1.stream.epoch,I (au c k self x value).1.stream.want,I (au c k self x value).1.stream.known,L (au c k self x value).1.stream.kept,L (au c k self x value).1.stream.ahead,L (au c k self x value).1.queue] rfl ?_ ?_
  ·simp (disch:=first|omega|assumption|(constructor<;>first|assumption|omega)|simp only[LN];omega) only[↓SB,S1,↓gE,af A.get]
  simp only[app]
  have hmp:=xQ (n:=cA { n with pubs:=n.pubs+1 } k (au c k self x value).1) (l:=(au c k self x value).2.1) hhb.1 hao.1 hao.2
  have hmc:=zI (self:=self) (n:=cA { n with pubs:=n.pubs+1 } k (au c k self x value).1) (m:={ n with pubs:=n.pubs+1 }) rfl rfl (au c k self x value).2.1
  simp (disch:=first|omega|assumption|(constructor<;>first|assumption|omega)|simp only[LN];omega) only[↓SB,S1,↓gE]
  refine ⟨fun h6=>?_,fun h6=>?_⟩
  ·rw[if_neg h6] at hE;rw[←hE];simp[bi,L]
  ·rw[if_pos h6] at hE
   rw[P1 A.get]
   rw[←hE]
   simp only[cA,Int.toNat_natCast] at hmp hmc ⊢
   simp (disch:=first|omega|assumption|(constructor<;>first|assumption|omega)|simp only[LN];omega) only[↓SB,S1,↓gE]
   rw[hmc]
 ·have h5': ¬G9 self k (ib n.peers self)=true:=by simp[G9,hoR,h5]
  rw[if_neg h5'] at hE
  rw[←hE]
  have hmp:=xQ (n:={ n with pubs:=n.pubs+1 }) (l:=[QI self n k value]) hhb.1 (by simp) (by intro m hm;rw[List.mem_singleton] at hm;subst hm;exact ⟨rfl,rfl⟩)
  simp only[QI,lp] at hmp ⊢
  simp (disch:=first|omega|assumption|(constructor<;>first|assumption|omega)|simp only[LN];omega) only[↓SB,S1,↓gE,↓sl]
theorem Fk(c:Config)(self:Int)(n:Node)(t:Int)(made:Bool)(hp:aI n=false)(hg:ag (eZ (c,self,n,t,made)).2.1):WW ρ 19 qa eZ (c,self,n,t,made):=by
 simp only[eZ,RR] at hg ⊢
 unfold qa
 simp only[ag,cj,aV] at hg
 simp (disch:=first|omega|assumption|(constructor<;>first|assumption|omega)|simp only[LN];omega) only[↓SB,S1,↓cN]
 by_cases h:aU c self n=0
 ·obtain ⟨hc,hs,hu,H⟩:=dI h
  have hcb:=fa hc
  by_cases ht:rng t 0 (c.topics-1)=true
  ·have htb:=aZ ht
   obtain ⟨k,x,rfl,A⟩:=uh h ht
   have hlt:=A.lt
   refine SUB.v1 (bb false) ?_ ?_
   ·simp (disch:=first|omega|assumption|(constructor<;>first|assumption|omega)|simp only[LN];omega) only[↓SB,S1,↓cN,h]
    exact ⟨fun h=>absurd h (by omega),fun _=>by rw[decide_eq_false (by omega)]⟩
   simp (disch:=first|omega|assumption|(constructor<;>first|assumption|omega)|simp only[LN];omega) only[↓SB,S1,↓cN,h,af A.get]
   cases made
   ·simp (disch:=first|omega|assumption|(constructor<;>first|assumption|omega)|simp only[LN];omega) only[↓SB,S1,↓cN,h]
    rw[ug h ht]
   ·simp (disch:=first|omega|assumption|(constructor<;>first|assumption|omega)|simp only[LN];omega) only[↓SB,S1,↓cN,h,af A.get]
    refine ⟨fun hm=>?_,fun hm=>?_⟩
    ·rw[Gr h ht (by rw[A.at_];exact hm)]
    ·rw[wm h ht (by rw[A.at_];exact hm)]
  ·have e1:bm c self n t=1:=by unfold bm;rw[if_pos h,if_neg ht]
   have e2:aJ c self n t=1:=by unfold aJ;rw[if_neg (by rw[e1];decide),e1]
   have hb:t<0∨c.topics≤t:=by
    apply Classical.byContradiction
    intro hn
    exact ht (by simp[rng];omega)
   refine SUB.v1 (bb true) ?_ ?_
   ·simp (disch:=first|omega|assumption|(constructor<;>first|assumption|omega)|simp only[LN];omega) only[↓SB,S1,↓cN,h]
    exact fun h=>by rw[decide_eq_true (by omega)]
   rw[e1,e2]
   simp (disch:=first|omega|assumption|(constructor<;>first|assumption|omega)|simp only[LN];omega) only[↓SB,S1,↓cN,Int.reduceEq]
   simp
 ·have e1:bm c self n t=aU c self n:=by unfold bm;rw[if_neg h]
  have e2:aJ c self n t=aU c self n:=by unfold aJ;rw[if_neg (by rw[e1];exact h),e1]
  refine SUB.v1 (bb false) ?_ ?_
  ·simp (disch:=first|omega|assumption|(constructor<;>first|assumption|omega)|simp only[LN];omega) only[↓SB,S1,↓cN,h]
  rw[e1,e2]
  simp (disch:=first|omega|assumption|(constructor<;>first|assumption|omega)|simp only[LN];omega) only[↓SB,S1,↓cN,h]
  simp
end Go.Xt
end
section
set_option linter.unusedSimpArgs false
set_option linter.unusedVariables false
set_option maxRecDepth 100000
namespace Go.Xt
set_option linter.defProp false
set_option maxHeartbeats 4000000
theorem Q1{c:Config}{self:Int}{n:Node}{t:Int}(h: ¬bm c self n t=0):fK c self n t=(bi,bm c self n t):=by unfold fK;rw[if_neg h]
theorem CM{c:Config}{self:Int}{n:Node}{t v:Int}(h: ¬aJ c self n t=0):ca c self n t v=(bi,[],0,aJ c self n t):=by unfold ca;rw[if_neg h]
theorem CN{c:Config}{self:Int}{n:Node}{t v:Int}(h: ¬aJ c self n t=0):ju c self n t v=(bi,[],0,aJ c self n t):=by unfold ju;rw[if_neg h]
theorem Gw{c:Config}{self:Int}{n:Node}{t v:Int}(h: ¬(aT c self n t v).2.2.2=0):aT c self n t v=(bi,[],0,(aT c self n t v).2.2.2):=by
 unfold aT at h ⊢
 split
 ·rename_i h1;rw[if_pos h1] at h
  split
  ·rename_i h2;rw[if_pos h2] at h
   split
   ·rename_i h3;rw[if_pos h3] at h;exact absurd rfl h
   ·rfl
  ·rfl
 ·rfl
theorem Oe{c:Config}{self:Int}{n:Node}{t v:Int}(h:aJ c self n t=0):ju c self n t v=((aT c self n t v).1,mi self (aT c self n t v).1 (aT c self n t v).2.1,(aT c self n t v).2.2.1,(aT c self n t v).2.2.2):=by
 unfold ju
 rw[if_pos h]
 by_cases h0:(aT c self n t v).2.2.2=0
 ·rw[if_pos h0,h0]
 ·rw[if_neg h0]
  have:=Gw h0
  rw[this];rfl
theorem Mz{c:Config}{self:Int}{n:Node}{t v:Int}:(aT c self n t v).2.1.length≤1000∧(aT c self n t v).1.peers.length≤12∧ ∀m∈(aT c self n t v).2.1,m.path.length≤30∧m.todo.length≤30:=by
 by_cases h0:(aT c self n t v).2.2.2=0
 ·exact CJ h0
 ·rw[Gw h0];simp[bi]
def ae:=And.intro @nV (And.intro @kO (And.intro @mD (And.intro @rh (And.intro @vn (And.intro @pf (And.intro @qy (And.intro @uQ (And.intro @zY (And.intro @Io (And.intro @EB (And.intro @gQ (And.intro @zZ (And.intro @Iq (And.intro @Ev (@vm)))))))))))))))
theorem wo(c:Config)(self:Int)(n:Node)(t:Int)(value:Int)(hg:ag (cJ (c,self,n,t,value)).2.1):WW ρ 19 jV cJ (c,self,n,t,value):=by
 simp only[cJ,RR] at hg ⊢
 unfold jV
 simp only[ag,cj,aV] at hg
 by_cases hh0:aI n=true
 ·rw[pf,hh0,jm]
 have hh:aI n=false:=by simpa using hh0
 rw[pf,hh,bh]
 by_cases hw:bm c self n t=0
 ·obtain ⟨h1,h2⟩:=lL hw
  obtain ⟨k,x,rfl,A⟩:=uh h1 h2
  have hlt:=A.lt
  have hql:=lJ (xH A.ok)
  cases hmd:x.made
  ·have hm:=Gr h1 h2 (by rw[A.at_];exact hmd)
   have e1:fK c self n k=(cA n k { x with made:=true },0):=by unfold fK;rw[if_pos hw,A.at_,if_neg (by rw[hmd];simp)]
   have e2: ∀b why,fG c self n k b why=(bi,aJ c self n k):=fun b why=>P4 (by rw[hm];decide)
   have e3:=CM (v:=value) (show ¬aJ c self n k=0 by rw[hm];decide)
   have e4:=CN (v:=value) (show ¬aJ c self n k=0 by rw[hm];decide)
   have e5:=P5 (show ¬aJ c self n k=0 by rw[hm];decide)
   simp (disch:=first|omega|assumption|(constructor<;>first|assumption|omega)|simp only[LN];omega) only[↓SB,S1,↓ae,hh,e1,e2,e3,e4,e5,hm,hw]
   refine SUB.v1 (bb false) ?_ ?_
   ·simp (disch:=first|omega|assumption|(constructor<;>first|assumption|omega)|simp only[LN];omega) only[↓SB,S1,↓ae,hw,af A.get,hmd]
   simp (disch:=first|omega|assumption|(constructor<;>first|assumption|omega)|simp only[LN];omega) only[↓SB,S1,↓ae]
   refine SUB.v1 (I 0) ?_ ?_
   ·simp (disch:=first|omega|assumption|(constructor<;>first|assumption|omega)|simp only[LN];omega) only[↓SB,S1,↓ae]
   simp (disch:=first|omega|assumption|(constructor<;>first|assumption|omega)|simp only[LN];omega) only[↓SB,S1,↓ae]
   refine SUB.val [bb n.up,I n.inc,L n.peers,L n.calls,I n.pubs,I n.asks,L n.marks,L n.taken,L (n.topics.set k { x with made:=true })] rfl ?_ ?_
   ·simp (disch:=first|omega|assumption|(constructor<;>first|assumption|omega)|simp only[LN];omega) only[↓SB,S1,↓ae,↓bk A.get (j:=0) (v:=bb true) (y:={ x with made:=true }) rfl]
   simp only[app]
   refine SUB.v1 (bb false) ?_ ?_
   ·simp (disch:=first|omega|assumption|(constructor<;>first|assumption|omega)|simp only[LN];omega) only[↓SB,S1,↓ae]
    simp[cA]
   simp (disch:=first|omega|assumption|(constructor<;>first|assumption|omega)|simp only[LN];omega) only[↓SB,S1,↓ae,Int.reduceEq]
   simp[bi,dw]
  ·have hmw:=wm h1 h2 (by rw[A.at_];exact hmd)
   have e1:fK c self n k=(bi,8):=by unfold fK;rw[if_pos hw,A.at_,if_pos hmd]
   have e4:=Oe (v:=value) hmw
   have hgs:(n.topics.set k { x with sub:= !x.sub })[k]? =some { x with sub:= !x.sub }:=by simp[hlt]
   have hsl:(n.topics.set k { x with sub:= !x.sub }).length=n.topics.length:=by simp
   simp (disch:=first|omega|assumption|(constructor<;>first|assumption|omega)|simp only[LN];omega) only[↓SB,S1,↓ae,hh,e1,e4,hmw,hw]
   refine SUB.v1 (bb true) ?_ ?_
   ·simp (disch:=first|omega|assumption|(constructor<;>first|assumption|omega)|simp only[LN];omega) only[↓SB,S1,↓ae,hw,af A.get,hmd]
   simp (disch:=first|omega|assumption|(constructor<;>first|assumption|omega)|simp only[LN];omega) only[↓SB,S1,↓ae]
   refine SUB.v1 (I 8) ?_ ?_
   ·simp (disch:=first|omega|assumption|(constructor<;>first|assumption|omega)|simp only[LN];omega) only[↓SB,S1,↓ae]
   simp (disch:=first|omega|assumption|(constructor<;>first|assumption|omega)|simp only[LN];omega) only[↓SB,S1,↓ae,Int.reduceEq]
   refine SUB.val [bb false,I 0,L ([]:List Peer),L ([]:List Call),I 0,I 0,L ([]:List Mark),L ([]:List Mark2),L ([]:List Topic)] rfl ?_ ?_
   ·simp (disch:=first|omega|assumption|(constructor<;>first|assumption|omega)|simp only[LN];omega) only[↓SB,S1,↓ae]
    rfl
   simp only[app]
   refine SUB.v1 (bb false) ?_ ?_
   ·simp (disch:=first|omega|assumption|(constructor<;>first|assumption|omega)|simp only[LN];omega) only[↓SB,S1,↓ae]
    simp[bi]
   simp (disch:=first|omega|assumption|(constructor<;>first|assumption|omega)|simp only[LN];omega) only[↓SB,S1,↓ae,af A.get]
   refine SUB.v2 (bb (!x.sub)) (L (n.topics.set k { x with sub:= !x.sub,queue:=[] })) ?_ ?_
   ·simp (disch:=first|omega|assumption|(constructor<;>first|assumption|omega)|simp only[LN];omega) only[↓SB,S1,↓ae,af A.get,↓bk A.get (j:=1) (v:=bb (!x.sub)) (y:={ x with sub:= !x.sub }) rfl,↓bk hgs (j:=15) (v:=.list []) (y:={ x with sub:= !x.sub,queue:=[] }) rfl]
    rw[List.set_set]
   refine SUB.val [bb true,.list []] rfl ?_ ?_
   ·cases hs:x.sub
    ·have t1:fG c self n k false 7=(bi,7):=P3 hmw (by rw[A.at_];exact hs)
     have t2:fG c self n k true 8=(cA n k { x with sub:=true,queue:=[] },0):=by rw[P2 hmw (by rw[A.at_,hs];simp),A.at_]
     simp (disch:=first|omega|assumption|(constructor<;>first|assumption|omega)|simp only[LN];omega) only[↓SB,S1,↓ae,t1,t2]
     simp[bi,cA]
    ·have t1:fG c self n k true 8=(bi,8):=P3 hmw (by rw[A.at_];exact hs)
     have t2:fG c self n k false 7=(cA n k { x with sub:=false,queue:=[] },0):=by rw[P2 hmw (by rw[A.at_,hs];simp),A.at_]
     simp (disch:=first|omega|assumption|(constructor<;>first|assumption|omega)|simp only[LN];omega) only[↓SB,S1,↓ae,t1,t2]
     simp[bi,cA]
   simp only[app]
   simp (disch:=first|omega|assumption|(constructor<;>first|assumption|omega)|simp only[LN];omega) only[↓SB,S1,↓ae]
   refine SUB.val [bb true,.list []] rfl ?_ ?_
   ·cases hv:val value
    ·have e3:ca c self n k value=(bi,[],0,1):=by unfold ca;rw[if_pos hmw,if_neg (by rw[hv];simp)]
     have e4':aT c self n k value=(bi,[],0,1):=by unfold aT;rw[if_pos h1,if_neg (by rw[hv];simp)]
     have hmz:mi self bi []=[]:=rfl
     simp (disch:=first|omega|assumption|(constructor<;>first|assumption|omega)|simp only[LN];omega) only[↓SB,S1,↓ae,hv,e3,e4',hmz]
     simp[bi]
    ·have e3:ca c self n k value=jt c self n k value:=by unfold ca;rw[if_pos hmw,if_pos hv]
     have hpp:aI n=false∧bm c self n k=0∧val value=true:=⟨hh,hw,hv⟩
     have hpb:aU c self n=0∧rng (k:Int) 0 (c.topics-1)=true∧val value=true:=⟨h1,h2,hv⟩
     have hbm:=Mz (c:=c) (self:=self) (n:=n) (t:=k) (v:=value)
     simp (disch:=first|omega|assumption|(constructor<;>first|assumption|omega)|simp only[LN];omega) only[↓SB,S1,↓ae,hv,e3]
     refine SUB.v1 (bb false) ?_ ?_
     ·simp (disch:=first|omega|assumption|(constructor<;>first|assumption|omega)|simp only[LN];omega) only[↓SB,S1,↓ae,e3]
      try simp
     simp (disch:=first|omega|assumption|(constructor<;>first|assumption|omega)|simp only[LN];omega) only[↓SB,S1,↓ae]
     try simp
   simp only[app]
   cases hq:x.queue with
   | nil =>
    have e5:ke c self n k=(bi,dw,10):=Mn hmw (by rw[A.at_];exact hq)
    simp (disch:=first|omega|assumption|(constructor<;>first|assumption|omega)|simp only[LN];omega) only[↓SB,S1,↓ae,e5,hq,af A.get]
    simp[bi,dw]
   | cons y r =>
    have e5:ke c self n k=(cA n k { x with queue:=r },y,0):=by rw[Gt hmw (by rw[A.at_];exact hq),A.at_]
    have hy0:(y::r)[0]? =some y:=rfl
    have hyc: ∀j,(L (y::r)).cellAt (I 0) j=look (Row.row y) j:=fun j=>af (i:=0) hy0
    have hyl:List.drop (Int.toNat 1) (y::r)=r:=rfl
    simp (disch:=first|omega|assumption|(constructor<;>first|assumption|omega)|simp only[LN];omega) only[↓SB,S1,↓ae,e5,hq,af A.get,hyc,hyl,↓bk A.get (j:=15) (v:=L r) (y:={ x with queue:=r }) rfl]
    simp[cA]
    try omega
 ·have hm:aJ c self n t=bm c self n t:=by unfold aJ;rw[if_neg hw]
  have e1:=Q1 hw
  have e2: ∀b why,fG c self n t b why=(bi,aJ c self n t):=fun b why=>P4 (by rw[hm];exact hw)
  have e3:=CM (v:=value) (show ¬aJ c self n t=0 by rw[hm];exact hw)
  have e4:=CN (v:=value) (show ¬aJ c self n t=0 by rw[hm];exact hw)
  have e5:=P5 (show ¬aJ c self n t=0 by rw[hm];exact hw)
  simp (disch:=first|omega|assumption|(constructor<;>first|assumption|omega)|simp only[LN];omega) only[↓SB,S1,↓ae,hh,e1,e2,e3,e4,e5,hm]
  refine SUB.v1 (bb false) ?_ ?_
  ·simp (disch:=first|omega|assumption|(constructor<;>first|assumption|omega)|simp only[LN];omega) only[↓SB,S1,↓ae,hw]
  simp (disch:=first|omega|assumption|(constructor<;>first|assumption|omega)|simp only[LN];omega) only[↓SB,S1,↓ae,hw]
  refine SUB.v1 (I (bm c self n t)) ?_ ?_
  ·simp (disch:=first|omega|assumption|(constructor<;>first|assumption|omega)|simp only[LN];omega) only[↓SB,S1,↓ae]
  simp (disch:=first|omega|assumption|(constructor<;>first|assumption|omega)|simp only[LN];omega) only[↓SB,S1,↓ae,hw]
  refine SUB.val [bb false,I 0,L ([]:List Peer),L ([]:List Call),I 0,I 0,L ([]:List Mark),L ([]:List Mark2),L ([]:List Topic)] rfl ?_ ?_
  ·simp (disch:=first|omega|assumption|(constructor<;>first|assumption|omega)|simp only[LN];omega) only[↓SB,S1,↓ae,hw]
   rfl
  simp only[app]
  refine SUB.v1 (bb false) ?_ ?_
  ·simp (disch:=first|omega|assumption|(constructor<;>first|assumption|omega)|simp only[LN];omega) only[↓SB,S1,↓ae,hw]
   simp[bi]
  simp (disch:=first|omega|assumption|(constructor<;>first|assumption|omega)|simp only[LN];omega) only[↓SB,S1,↓ae,hw]
  simp[bi,dw]
end Go.Xt
end
