/- Steps towards the statements of this seat; the conditions stand in each theorem. -/
import Derived.Test.YtjolhiejojfkkaaGreatDoorPartW1
section
set_option linter.unusedSimpArgs false
set_option linter.unusedVariables false
set_option maxRecDepth 100000
namespace Go.Xt
set_option linter.defProp false
def yv(self:Int)(y:Topic)(peers:List Peer)(t:Int):List Int :=
 y.kids.map Kid.node++(if 0<y.parent then [y.parent-1] else [])++(if y.kids=[]∧oh y=false∧0≤iG t (iC peers self) self then [iG t (iC peers self) self] else [])
theorem uO(n:Node)(pt:List Int): ∀(a b td:List Int),cO n pt td (a++b)=cO n pt (cO n pt td a) b
 | [],_,_=>rfl
 | x::a,b,td=>by rw[List.cons_append,cO,cO,uO n pt a b]
theorem RQ{n:Node}{x:Int}(h:x<0):oY n x=false:=by
 unfold oY
 have:rng x 0 (n.peers.length-1)=false:=by unfold rng;simp;omega
 rw[this];rfl
theorem ME{n:Node}{pt td:List Int}{x:Int}(h:x<0):cO n pt td [x]=td:=by
 rw[cO,RQ h];rfl
theorem Qo{n:Node}{self t:Int}{pt td:List Int}{y:Topic}(hy:bi n t=y)(h0:0≤y.parent):cO n pt td (qW self n t)=cO n pt td (yv self y n.peers t):=by
 unfold qW yv
 rw[hy,uO,uO,uO,uO]
 have e1: ∀td,cO n pt td [y.parent-1]=cO n pt td (if 0<y.parent then [y.parent-1] else []):=by
  intro td
  split
  ·rfl
  ·rw[ME (by omega)];rfl
 rw[e1]
 generalize cO n pt (cO n pt td (y.kids.map Kid.node)) (if 0<y.parent then [y.parent-1] else [])=td2
 by_cases h:y.kids=[]∧oh y=false
 ·rw[if_pos h]
  by_cases h2:0≤iG t (iC n.peers self) self
  ·rw[if_pos ⟨h.1,h.2,h2⟩]
  ·rw[if_neg (by rintro ⟨_,_,h3⟩;exact h2 h3),ME (by omega)];rfl
 ·rw[if_neg h,if_neg (by rintro ⟨h1,h2,_⟩;exact h ⟨h1,h2⟩)]
theorem T6{self t:Int}{y:Topic}{peers:List Peer}(hk: ∀u∈y.kids,0≤u.node)(h0:0≤y.parent): ∀z∈yv self y peers t,0≤z:=by
 intro z hz
 unfold yv at hz
 rcases List.mem_append.1 hz with hz | hz
 ·rcases List.mem_append.1 hz with hz | hz
  ·obtain ⟨u,hu,rfl⟩:=List.mem_map.1 hz;exact hk u hu
  ·split at hz
   ·rw[List.mem_singleton] at hz;omega
   ·simp at hz
 ·split at hz
  ·rename_i h;rw[List.mem_singleton] at hz;rw[hz];exact h.2.2
  ·simp at hz
theorem RS{self t:Int}{y:Topic}{peers:List Peer}(h:y.kids.length≤8):(yv self y peers t).length≤10:=by
 unfold yv
 rw[List.length_append,List.length_append,List.length_map]
 split<;>split<;>simp<;>omega
theorem T7{c:Config}{t self:Int}{y:Topic}(h:aM c t self y=true): ∀u∈y.kids,0≤u.node:=by
 have hg: ∀(l:List Kid) (a:Int),lX t a l=true→ ∀u∈l,0≤u.node:=by
  intro l
  induction l with
  | nil=>intro a _ u hu;simp at hu
  | cons k r ih =>
   intro a h u hu
   simp only[lX,fD,Bool.and_eq_true] at h
   rcases List.mem_cons.1 hu with rfl | hu
   ·exact (dr.1 h.1.1.1.1.2).1
   ·exact ih _ h.2 u hu
 simp only[aM,ko,Bool.and_eq_true] at h
 exact hg _ _ h.1.2.2
theorem RT{l:List Peer}{k:Nat}{p:Peer}(h:bB l=true)(hp:l[k]? =some p):0≤p.inc:=by
 simp only[bB,Bool.and_eq_true,List.all_eq_true] at h
 have:=h.2 p (List.mem_of_getElem? hp)
 simp only[og,Bool.and_eq_true] at this
 exact (aZ this.1).1
theorem T8{n:Node}{m:Nat}{p:Peer}(h:n.peers[m]? =some p)(h0:0≤p.inc):oY n m=decide (0<p.inc):=by
 have hl:=(List.getElem?_eq_some_iff.1 h).1
 unfold oY
 have e1:rng m 0 (n.peers.length-1)=true:=by unfold rng;simp;omega
 rw[e1,Int.toNat_natCast,List.getD_eq_getElem?_getD,h,Bool.true_and,Bool.eq_iff_iff]
 simp;omega
theorem RU{n:Node}{m:Nat}(h: ¬(m:Int)<n.peers.length):oY n m=false:=by
 unfold oY
 have e1:rng m 0 (n.peers.length-1)=false:=by unfold rng;simp;omega
 rw[e1];rfl
theorem Ps(b:Int)(h0:0≤b)(h1:b≤41):0<(2:Int) ^ b.toNat∧(2:Int) ^ b.toNat≤2199023255552:=by
 have hb:b.toNat≤41:=by omega
 refine ⟨Int.pow_pos (by decide),?_⟩
 have:=Nat.pow_le_pow_right (n:=2) (by decide) hb
 have h2:((2 ^ b.toNat:Nat):Int)≤((2 ^ 41:Nat):Int):=by exact_mod_cast this
 simpa using h2
def ap:=And.intro @pq (And.intro @iD (And.intro @xY (And.intro @jw (And.intro @ye (And.intro @Cv (And.intro @LI (@Am)))))))
theorem FE(c:Config)(self:Int)(n:Node)(t:Int)(value:Int)(hp:ax c self n=0∧rng t 0 (c.topics-1)=true∧val value=true)(hg:ag (fj (c,self,n,t,value)).2.1):WW ρ 19 qw fj (c,self,n,t,value):=by
 simp only[fj,RR] at hg ⊢
 unfold qw
 simp only[ag,bV,aR] at hg
 obtain ⟨hw,ht0,hvv⟩:=hp
 generalize hE:aN c self n t value=q
 unfold aN at hE
 rw[if_pos hw,if_pos (by rw[ht0,hvv];rfl)] at hE
 obtain ⟨hc,hsr,hu,H⟩:=ca hw
 have hb:=dh hc
 have hsb:=aZ hsr
 simp (disch:=first|omega|assumption|(constructor<;>first|assumption|omega)|simp only[LN];omega) only[↓SB,S1,↓ap]
 refine ⟨fun ha=>?_,fun ha=>?_⟩
 ·rw[if_neg (by omega)] at hE;rw[←hE];rfl
 rw[if_pos (by omega)] at hE
 have hab:=aZ H.asks
 have hpl:=H.pl;have hml:=H.ml;have hkl:=H.kl;have hcl:=H.cl
 have htl:=H.tl
 refine SUB.val [L n.taken,L n.marks,L n.calls,L n.topics,L n.peers] rfl ?_ ?_
 ·simp (disch:=first|omega|assumption|(constructor<;>first|assumption|omega)|simp only[LN];omega) only[↓SB,S1,↓ap]
  refine aw.rule (α:=Nat) (fun i=>[I i,L (n.topics.take i)]) (fun i=>i≤n.topics.length) (fun i=>n.topics.length-i) 0 rfl (by omega) (fun _=>rfl) ?_
  intro i hl
  simp only[app]
  simp (disch:=first|omega|assumption|(constructor<;>first|assumption|omega)|simp only[LN];omega) only[↓SB,S1,↓ap]
  refine ⟨fun hcc=>?_,fun hcc=>?_⟩
  ·obtain ⟨y,hy⟩:=am hcc
   have hx9:=D1 hc H hy
   have hlt:(n.topics.take i).length=i:=by simp;omega
   simp (disch:=first|omega|assumption|(constructor<;>first|assumption|omega)|simp only[LN];omega) only[↓SB,S1,↓ap,ab hy]
   exact ⟨i+1,by simp[yn hy],by omega,by omega⟩
  rw[List.take_of_length_le (by omega)]
 simp only[app]
 simp (disch:=first|omega|assumption|(constructor<;>first|assumption|omega)|simp only[LN];omega) only[↓SB,S1,↓ap]
 rw[show L [(⟨n.asks+1,t,0⟩:Kid)]=L [(⟨n.asks+1,t,0⟩:Call)] from rfl]
 simp (disch:=first|omega|assumption|(constructor<;>first|assumption|omega)|simp only[LN];omega) only[↓SB,S1,↓ap]
 obtain ⟨s,hk⟩:=Int.eq_ofNat_of_zero_le hsb.1
 subst hk
 obtain ⟨mk,hmk⟩:=am (xs:=n.marks) (i:=s) (by omega)
 have hmd:n.marks.getD s Af=mk:=by simp[List.getD_eq_getElem?_getD,hmk]
 have hmb:=Pp H.marks hmk
 have hml2:jB n.marks s n.inc (n.asks+1)=if meets n.marks s n.inc (n.asks+1)=true then n.marks.set s { kG mk n.inc with met:=(kG mk n.inc).met+2 ^ (n.asks+1).toNat } else n.marks:=by
  unfold jB;rw[Int.toNat_natCast,hmd]
 have hme:meets n.marks s n.inc (n.asks+1)=(decide (mk.inc≤n.inc)&& !pJ (kG mk n.inc) (n.asks+1)):=by unfold meets;rw[Int.toNat_natCast,hmd]
 refine SUB.v2 (bb (meets n.marks s n.inc (n.asks+1))) (L (jB n.marks s n.inc (n.asks+1))) ?_ ?_
 ·rw[hml2,hme]
  simp (disch:=first|omega|assumption|(constructor<;>first|assumption|omega)|simp only[LN];omega) only[↓SB,S1,↓ap,ab hmk]
  refine ⟨fun hgt=>?_,fun hle=>⟨fun hlt=>?_,fun hge=>?_⟩⟩
  ·have e:decide (mk.inc≤n.inc)=false:=by simp;omega
   simp[e]
  ·have e:kG mk n.inc=⟨n.inc,0,0⟩:=by unfold kG;rw[if_pos hlt]
   have hsz:=(List.getElem?_eq_some_iff.1 hmk).1
   have h1:(n.marks.set s ⟨n.inc,mk.pubs,mk.met⟩)[s]? =some ⟨n.inc,mk.pubs,mk.met⟩:=by simp[hsz]
   have h2:((n.marks.set s ⟨n.inc,mk.pubs,mk.met⟩).set s ⟨n.inc,0,mk.met⟩)[s]? =some ⟨n.inc,0,mk.met⟩:=by simp[hsz]
   have h3:(n.marks.set s ⟨n.inc,0,0⟩)[s]? =some ⟨n.inc,0,0⟩:=by simp[hsz]
   rw[bk hmk (y:=⟨n.inc,mk.pubs,mk.met⟩) rfl,bk h1 (y:=⟨n.inc,0,mk.met⟩) rfl,bk h2 (y:=⟨n.inc,0,0⟩) rfl,List.set_set,List.set_set,e]
   simp (disch:=first|omega|assumption|(constructor<;>first|assumption|omega)|simp only[LN];omega) only[↓SB,S1,↓ap,ab h3]
   have hz:(0:Int) / 2 ^ (n.asks+1).toNat % 2=0:=by simp
   rw[JK (by omega) (by omega)]
   rw[Hp (by simp) (by omega),hz]
   simp (disch:=first|omega|assumption|(constructor<;>first|assumption|omega)|simp only[LN];omega) only[↓SB,S1,↓ap]
   rw[zy (by omega) (by omega)]
   have hpw:=Ps (n.asks+1) (by omega) (by omega)
   simp (disch:=first|omega|assumption|(constructor<;>first|assumption|omega)|simp only[LN];omega) only[↓SB,S1,↓ap]
   rw[bk h3 (y:=⟨n.inc,0,0+2 ^ (n.asks+1).toNat⟩) rfl,List.set_set]
   have e5:decide (mk.inc≤n.inc)=true:=by simp;omega
   simp[e5,pJ]
  ·have e:kG mk n.inc=mk:=by unfold kG;rw[if_neg hge]
   rw[JK (by omega) (by omega),Hp (Int.ediv_nonneg hmb.1 (Int.le_of_lt (Int.pow_pos (by decide)))) (by omega),e]
   simp (disch:=first|omega|assumption|(constructor<;>first|assumption|omega)|simp only[LN];omega) only[↓SB,S1,↓ap]
   have e5:decide (mk.inc≤n.inc)=true:=by simp;omega
   refine ⟨fun hm=>by simp[e5,pJ,hm],fun hm=>?_⟩
   rw[zy (by omega) (by omega)]
   have hpw:=Ps (n.asks+1) (by omega) (by omega)
   simp (disch:=first|omega|assumption|(constructor<;>first|assumption|omega)|simp only[LN];omega) only[↓SB,S1,↓ap]
   rw[bk hmk (y:={ mk with met:=mk.met+2 ^ (n.asks+1).toNat }) rfl]
   simp[e5,pJ,hm]
 have hcl2:(n.calls++[(⟨n.asks+1,t,0⟩:Call)]).length≤100:=by simp;omega
 have HD:DoesOk (s:Int) (⟨n.up,n.inc,n.peers,n.topics,n.calls++[⟨n.asks+1,t,0⟩],n.pubs,n.asks+1,jB n.marks s n.inc (n.asks+1),n.taken⟩:Node) t:=Pn hc hsr H ht0 rfl rfl hcl2 (by show n.taken.length≤100;omega)
 dsimp only at hE
 have hcb:1≤n.asks+1∧n.asks+1≤40:=by omega
 generalize n.calls++[(⟨n.asks+1,t,0⟩:Call)]=calls at hE HD hcl2 ⊢
 generalize hcnt:n.asks+1=cnt at hE HD hcb ⊢
 generalize jB n.marks s n.inc cnt=marks at hE HD ⊢
 obtain ⟨h1,h2,h3,h4,h5,h6,h7,h8,h9,h10⟩:=HD
 have hbt:=jy.1 h1
 have hs:=aZ h4
 obtain ⟨k,rfl⟩:=Int.eq_ofNat_of_zero_le hbt.1
 obtain ⟨y,hy⟩:=am (xs:=n.topics) (i:=k) (by omega)
 have hgd: ∀(a:Bool) (b:Int) (d:List Peer) (e:List Call) (f g:Int) (i:List Mark) (j:List Mark2),bi (⟨a,b,d,n.topics,e,f,g,i,j⟩:Node) k=y:=by intros;simp[bi,List.getD_eq_getElem?_getD,hy]
 have hbc:(calls.length:Int)≤100:=by have:=h8;dsimp only at this;omega
 rw[hgd] at h5 h6 h7 h10
 dsimp only at h2 h3 h4 h9
 have hty:=rg H.tops hy
 have hqok:=sX hty
 have hkn:=T7 hty
 generalize hr:iv c s (⟨n.up,n.inc,n.peers,n.topics,calls,n.pubs,cnt,marks,n.taken⟩:Node) { lL with topic:=(k:Int),node:=(s:Int),inc:=n.inc,count:=cnt,value:=value }=r at hE
 have hQ:[bb r.1.up,I r.1.inc,L r.1.peers,L r.1.topics,L r.1.calls,I r.1.pubs,I r.1.asks,L r.1.marks,L r.1.taken,L r.2,I cnt,I 0]=[bb q.fst.up,I q.fst.inc,L q.fst.peers,L q.fst.topics,L q.fst.calls,I q.fst.pubs,I q.fst.asks,L q.fst.marks,L q.fst.taken,L q.snd.fst,I q.snd.snd.fst,I q.snd.snd.snd]:=by rw[←hE]
 clear hE
 generalize [bb q.fst.up,I q.fst.inc,L q.fst.peers,L q.fst.topics,L q.fst.calls,I q.fst.pubs,I q.fst.asks,L q.fst.marks,L q.fst.taken,L q.snd.fst,I q.snd.snd.fst,I q.snd.snd.snd]=z at hQ ⊢
 simp only[iv,lL,hgd,List.nil_append] at hr
 have hcn:rng cnt 1 40=true:=by unfold rng;simp;omega
 cases hsub:y.sub
 ·simp (disch:=first|omega|assumption|(constructor<;>first|assumption|omega)|simp only[LN];omega) only[↓SB,S1,↓ap,ab hy,hsub,List.nil_append]
  simp only[hsub,Bool.false_eq_true,if_false] at hr
  rw[Qo (hgd ..) h7] at hr
  refine aw.rule (α:=Nat) (fun i=>[I i,L ((y.kids.take i).map Kid.node)]) (fun i=>i≤y.kids.length) (fun i=>y.kids.length-i) 0 rfl (by omega) (fun _=>rfl) ?_
  intro i hl9
  simp only[app]
  have hlt9:((y.kids.take i).map Kid.node).length≤8:=by simp;omega
  simp (disch:=first|omega|assumption|(constructor<;>first|assumption|omega)|simp only[LN];omega) only[↓SB,S1,↓ap]
  refine ⟨fun h=>?_,fun h=>?_⟩
  ·obtain ⟨u,hu1⟩:=am h
   simp (disch:=first|omega|assumption|(constructor<;>first|assumption|omega)|simp only[LN];omega) only[↓SB,S1,↓ap,ab hu1]
   refine ⟨i+1,?_,by omega,by omega⟩
   show [PV.int .i64 _,_]=_
   rw[List.take_add_one,hu1];simp
  have hi9:i=y.kids.length:=by omega
  subst hi9
  rw[List.take_length] at hlt9 ⊢
  clear hlt9
  have hkm:(y.kids.map Kid.node).length≤8:=by simp;omega
  refine SUB.v1 (L (y.kids.map Kid.node++(if 0<y.parent then [y.parent-1] else []))) ?_ ?_
  ·simp (disch:=first|omega|assumption|(constructor<;>first|assumption|omega)|simp only[LN];omega) only[↓SB,S1,↓ap]
   refine ⟨fun h=>?_,fun h=>?_⟩
   ·rw[if_pos h]
   ·rw[if_neg h,List.append_nil]
  refine SUB.v1 (bb (decide (y.kids=[])&& !oh y)) ?_ ?_
  ·simp (disch:=first|omega|assumption|(constructor<;>first|assumption|omega)|simp only[LN];omega) only[↓SB,S1,↓ap]
   refine ⟨fun h=>?_,fun h=>?_⟩
   ·have:y.kids=[]:=List.eq_nil_of_length_eq_zero (by omega)
    simp[this];rfl
   ·have:y.kids≠[]:=by intro h';apply h;rw[h'];rfl
    simp[this]
  have hml9:(y.kids.map Kid.node++(if 0<y.parent then [y.parent-1] else [])).length≤9:=by
   rw[List.length_append];split<;>simp<;>omega
  refine SUB.v1 (L (yv s y n.peers k)) ?_ ?_
  ·unfold yv
   have hpn:n.peers.length≤1000:=by omega
   have hnx:=And.intro h1 (CY h3 hs.1 (by omega))
   generalize (y.kids.map Kid.node++(if 0<y.parent then [y.parent-1] else []))=pre at hml9 ⊢
   cases hka:(decide (y.kids=[])&& !oh y)
   ·rw[if_neg (by rintro ⟨a1,a2,_⟩;rw[a1,a2] at hka;simp at hka),List.append_nil]
    simp (disch:=first|omega|assumption|(constructor<;>first|assumption|omega)|simp only[LN];omega) only[↓SB,S1,↓ap]
   ·simp only[Bool.and_eq_true,decide_eq_true_eq,Bool.not_eq_true'] at hka
    simp (disch:=first|omega|assumption|(constructor<;>first|assumption|omega)|simp only[LN];omega) only[↓SB,S1,↓ap]
    refine ⟨fun h=>?_,fun h=>?_⟩
    ·rw[if_pos (⟨hka.1,hka.2,h⟩:y.kids=[]∧oh y=false∧_)]
    ·rw[if_neg (by rintro ⟨_,_,h'⟩;exact h h'),List.append_nil]
  have hnn:=T6 (self:=s) (peers:=n.peers) (t:=k) hkn h7
  have hnl:=RS (self:=s) (peers:=n.peers) (t:=k) h5
  generalize yv s y n.peers k=nl at hnl hnn hr ⊢
  generalize hT:cO (⟨n.up,n.inc,n.peers,n.topics,calls,n.pubs,cnt,marks,n.taken⟩:Node) ([(s:Int)]) [] nl=todo at hr
  refine aw.rule (α:=Nat×List Int) (fun p=>[I p.1,L p.2]) (fun p=>p.1≤nl.length∧p.2.length≤0+p.1∧cO (⟨n.up,n.inc,n.peers,n.topics,calls,n.pubs,cnt,marks,n.taken⟩:Node) ([(s:Int)]) p.2 (nl.drop p.1)=todo) (fun p=>nl.length-p.1) (0,[]) rfl ⟨by simp,by simp<;>omega,by simpa using hT⟩ (fun _=>rfl) ?_
  rintro ⟨i,a⟩ ⟨hi,ha,hs2⟩
  simp only at hi ha hs2
  simp only[app]
  simp (disch:=first|omega|assumption|(constructor<;>first|assumption|omega)|simp only[LN];omega) only[↓SB,S1,↓ap]
  refine ⟨fun h=>?_,fun h=>?_⟩
  ·obtain ⟨w,hw⟩:=am h
   obtain ⟨m,rfl⟩:=Int.eq_ofNat_of_zero_le (hnn w (List.mem_of_getElem? hw))
   rw[az hw,cO] at hs2
   simp (disch:=first|omega|assumption|(constructor<;>first|assumption|omega)|simp only[LN];omega) only[↓SB,S1,↓ap,ab hw]
   refine ⟨fun e0=>?_,fun e0=>?_⟩
   ·obtain ⟨p,hp9⟩:=am (xs:=n.peers) (i:=m) (by omega)
    rw[T8 (n:=⟨n.up,n.inc,n.peers,n.topics,calls,n.pubs,cnt,marks,n.taken⟩) hp9 (RT h3 hp9)] at hs2
    simp (disch:=first|omega|assumption|(constructor<;>first|assumption|omega)|simp only[LN];omega) only[↓SB,S1,↓ap,ab hp9]
    refine ⟨fun e1=>⟨fun e2=>⟨fun e3=>⟨(i+1,a++[(m:Int)]),rfl,⟨by simp;omega,by simp;omega,?_⟩,by simp;omega⟩,fun e3=>⟨(i+1,a),rfl,⟨by simp;omega,by simp;omega,?_⟩,by simp;omega⟩⟩,fun e2=>⟨(i+1,a),rfl,⟨by simp;omega,by simp;omega,?_⟩,by simp;omega⟩⟩,fun e1=>⟨(i+1,a),rfl,⟨by simp;omega,by simp;omega,?_⟩,by simp;omega⟩⟩
    ·simp only[e1,e2,e3,decide_true,Bool.not_false,Bool.and_self,if_true] at hs2;exact hs2
    ·simp only[e1,e2,e3,decide_true,Bool.not_false,Bool.not_true,Bool.and_false,Bool.false_eq_true,if_false] at hs2;exact hs2
    ·simp only[e1,e2,decide_true,Bool.not_false,Bool.not_true,Bool.and_false,Bool.false_and,Bool.false_eq_true,if_false] at hs2;exact hs2
    ·rw[decide_eq_false e1] at hs2;simp only[Bool.false_and,Bool.false_eq_true,if_false] at hs2;exact hs2
   ·rw[RU (n:=⟨n.up,n.inc,n.peers,n.topics,calls,n.pubs,cnt,marks,n.taken⟩) e0] at hs2
    exact ⟨(i+1,a),rfl,⟨by simp;omega,by simp;omega,by simpa using hs2⟩,by simp;omega⟩
  rw[aq h,cO] at hs2
  subst hs2
  unfold goN at hr
  refine SUB.v1 (bb (decide (a=[])||decide (16≤(0:Int)))) ?_ ?_
  ·simp (disch:=first|omega|assumption|(constructor<;>first|assumption|omega)|simp only[LN];omega) only[↓SB,S1,↓ap]
   refine ⟨fun h=>?_,fun h=>?_⟩
   ·have:a=[]:=List.eq_nil_of_length_eq_zero (by omega)
    simp[this]
   ·have:a≠[]:=by intro h';apply h;rw[h'];rfl
    simp[this]
  by_cases ha0:a=[]
  ·rw[if_pos (.inl ha0)] at hr
   unfold lP at hr
   rw[if_pos rfl] at hr
   dsimp only at hr
   have hd9:(decide (a=[])||decide ((16:Int)≤0))=true:=by rw[ha0];rfl
   simp (disch:=first|omega|assumption|(constructor<;>first|assumption|omega)|simp only[LN];omega) only[↓SB,S1,↓ap,hd9]
   have hkd:(4:Int)=3∨(4:Int)=4:=by omega
   have hvE:ec (⟨4,0,0,0,0,cnt⟩:Event)=true:=by simp[ec,hcn]
   have hofs:df (⟨4,0,0,0,0,cnt⟩:Event)=false:=rfl
   refine aw.rule (α:=Nat) (fun i=>[I i]) (fun i=>i≤calls.length∧(calls.take i).any (bZ k cnt)=false) (fun i=>calls.length-i) 0 rfl ⟨by omega,by simp⟩ (fun _=>rfl) ?_
   rintro i ⟨hi3,hs3⟩
   simp only[app]
   simp (disch:=first|omega|assumption|(constructor<;>first|assumption|omega)|simp only[LN];omega) only[↓SB,S1,↓ap]
   refine ⟨fun h=>?_,fun h=>?_⟩
   ·obtain ⟨u,hu1⟩:=am h
    simp (disch:=first|omega|assumption|(constructor<;>first|assumption|omega)|simp only[LN];omega) only[↓SB,S1,↓ap,ab hu1]
    refine SUB.v1 (bb (bZ k cnt u)) ?_ ?_
    ·unfold bZ;repeat' (first | apply And.intro | intro _ | simp (disch:=first|omega|assumption|(constructor<;>first|assumption|omega)|simp only[LN];omega) only[↓SB,S1,↓ap])
     all_goals simp[*]
    cases hcx:bZ k cnt u
    ·simp (disch:=first|omega|assumption|(constructor<;>first|assumption|omega)|simp only[LN];omega) only[↓SB,S1,↓ap]
     exact ⟨i+1,rfl,⟨by omega,yu hs3 hu1 hcx⟩,by omega⟩
    ·obtain ⟨e5,e6⟩:=rf hs3 hu1 hcx
     have hl1:(calls.take i).length≤100:=by simp;omega
     have hl2:(calls.drop (i+1)).length≤100:=by simp;omega
     have ei:((i:Int)+1).toNat=i+1:=by omega
     rw[nS (n:=⟨n.up,n.inc,n.peers,n.topics,calls,n.pubs,cnt,marks,n.taken⟩) e6 rfl hy,e5] at hr
     have hpp:y.queue.length≤1000∧2≤c.queue∧c.queue≤32∧_:=⟨by omega,by omega,by omega,hkd⟩
     simp (disch:=first|omega|assumption|(constructor<;>first|assumption|omega)|simp only[LN];omega) only[↓SB,S1,↓ap,Int.toNat_natCast,ei,ab hy]
     rw[show tp calls i (i+1)=calls.take i++calls.drop (i+1) from rfl] at hr
     rw[show wG cnt (-1)=(⟨4,0,0,0,0,cnt⟩:Event) from rfl,D5 hqok hvE hofs] at hr
     refine ⟨fun hroom=>?_,fun hroom=>?_⟩
     ·rw[if_pos hroom] at hr ⊢
      rw[bk hy (j:=15) (v:=L (y.queue++[(⟨4,0,0,0,0,cnt⟩:Event)])) (y:={ y with queue:=y.queue++[(⟨4,0,0,0,0,cnt⟩:Event)] }) rfl]
      subst hr
      exact hQ
     ·rw[if_neg hroom,show ({ y with queue:=y.queue }:Topic)=y from rfl,Mt hy] at hr
      subst hr
      exact hQ
   ·have hi4:i=calls.length:=by omega
    subst hi4
    rw[List.take_length] at hs3
    rw[nR (n:=⟨n.up,n.inc,n.peers,n.topics,calls,n.pubs,cnt,marks,n.taken⟩) hs3] at hr
    subst hr
    exact hQ
  ·rw[if_neg (by rintro (h | h);exact ha0 h;simp at h)] at hr
   have hane:=ha0
   have hd9:(decide (a=[])||decide ((16:Int)≤0))=false:=by simp[ha0]
   have hpos:0<a.length:=List.length_pos_iff.2 hane
   obtain ⟨j,hj⟩: ∃j,a.length=j+1:=⟨a.length-1,by omega⟩
   have e1:((a.length:Int)-1)=(j:Nat):=by omega
   obtain ⟨w,hw2⟩:=am (xs:=a) (i:=j) (by omega)
   have e2:a.take j=a.dropLast:=by rw[List.dropLast_eq_take];congr 1;omega
   have e3:a.getLastD 0=w:=by
    rw[List.getLastD_eq_getLast?,List.getLast?_eq_getElem?,hj,Nat.add_sub_cancel,hw2];rfl
   have e4:(a.take j).length≤1000000:=by simp;omega
   simp (disch:=first|omega|assumption|(constructor<;>first|assumption|omega)|simp only[LN];omega) only[↓SB,S1,↓ap,hd9,e1,ab hw2,Int.toNat_natCast,↓vo]
   rw[e3] at hr
   rw[e2]
   subst hr
   exact hQ
 ·simp only[hsub,if_true] at hr
  unfold lP at hr
  rw[if_pos rfl] at hr
  dsimp only at hr
  have e1:((n.taken++[(⟨s,n.inc,cnt,k,value⟩:Mark2)]).length:Int)≤101:=by simp;omega
  have e2:(max (((n.taken++[(⟨s,n.inc,cnt,k,value⟩:Mark2)]).length:Int)-64) 0).toNat=(n.taken++[(⟨s,n.inc,cnt,k,value⟩:Mark2)]).length-64:=by omega
  have e3:(ol (n.taken++[(⟨s,n.inc,cnt,k,value⟩:Mark2)]) 64).length≤1000000:=by unfold ol;simp;omega
  simp (disch:=first|omega|assumption|(constructor<;>first|assumption|omega)|simp only[LN];omega) only[↓SB,S1,↓ap,ab hy,hsub]
  rw[e2]
  have hkd:(3:Int)=3∨(3:Int)=4:=by omega
  have hvE:ec (⟨3,0,0,0,s,cnt⟩:Event)=true:=by simp[ec,hcn,isN];omega
  have hofs:df (⟨3,0,0,0,s,cnt⟩:Event)=false:=rfl
  refine aw.rule (α:=Nat) (fun i=>[I i]) (fun i=>i≤calls.length∧(calls.take i).any (bZ k cnt)=false) (fun i=>calls.length-i) 0 rfl ⟨by omega,by simp⟩ (fun _=>rfl) ?_
  rintro i ⟨hi3,hs3⟩
  simp only[app]
  simp (disch:=first|omega|assumption|(constructor<;>first|assumption|omega)|simp only[LN];omega) only[↓SB,S1,↓ap]
  refine ⟨fun h=>?_,fun h=>?_⟩
  ·obtain ⟨u,hu1⟩:=am h
   simp (disch:=first|omega|assumption|(constructor<;>first|assumption|omega)|simp only[LN];omega) only[↓SB,S1,↓ap,ab hu1]
   refine SUB.v1 (bb (bZ k cnt u)) ?_ ?_
   ·unfold bZ;repeat' (first | apply And.intro | intro _ | simp (disch:=first|omega|assumption|(constructor<;>first|assumption|omega)|simp only[LN];omega) only[↓SB,S1,↓ap])
    all_goals simp[*]
   cases hcx:bZ k cnt u
   ·simp (disch:=first|omega|assumption|(constructor<;>first|assumption|omega)|simp only[LN];omega) only[↓SB,S1,↓ap]
    exact ⟨i+1,rfl,⟨by omega,yu hs3 hu1 hcx⟩,by omega⟩
   ·obtain ⟨e5,e6⟩:=rf hs3 hu1 hcx
    have hl1:(calls.take i).length≤100:=by simp;omega
    have hl2:(calls.drop (i+1)).length≤100:=by simp;omega
    have ei:((i:Int)+1).toNat=i+1:=by omega
    rw[nS (n:=⟨n.up,n.inc,n.peers,n.topics,calls,n.pubs,cnt,marks,ol (n.taken++[(⟨s,n.inc,cnt,k,value⟩:Mark2)]) 64⟩) e6 rfl hy,e5] at hr
    have hpp:y.queue.length≤1000∧2≤c.queue∧c.queue≤32∧_:=⟨by omega,by omega,by omega,hkd⟩
    simp (disch:=first|omega|assumption|(constructor<;>first|assumption|omega)|simp only[LN];omega) only[↓SB,S1,↓ap,Int.toNat_natCast,ei,ab hy]
    rw[show tp calls i (i+1)=calls.take i++calls.drop (i+1) from rfl] at hr
    rw[show wG cnt s=(⟨3,0,0,0,s,cnt⟩:Event) from if_pos hs.1,D5 hqok hvE hofs] at hr
    refine ⟨fun hroom=>?_,fun hroom=>?_⟩
    ·rw[if_pos hroom] at hr ⊢
     rw[bk hy (j:=15) (v:=L (y.queue++[(⟨3,0,0,0,s,cnt⟩:Event)])) (y:={ y with queue:=y.queue++[(⟨3,0,0,0,s,cnt⟩:Event)] }) rfl]
     subst hr
     exact hQ
    ·rw[if_neg hroom,show ({ y with queue:=y.queue }:Topic)=y from rfl,Mt hy] at hr
     subst hr
     exact hQ
  ·have hi4:i=calls.length:=by omega
   subst hi4
   rw[List.take_length] at hs3
   rw[nR (n:=⟨n.up,n.inc,n.peers,n.topics,calls,n.pubs,cnt,marks,ol (n.taken++[(⟨s,n.inc,cnt,k,value⟩:Mark2)]) 64⟩) hs3] at hr
   subst hr
   exact hQ
end Go.Xt
end
section
set_option linter.unusedSimpArgs false
set_option linter.unusedVariables false
set_option maxRecDepth 100000
namespace Go.Xt
set_option linter.defProp false
theorem JQ(n:Int)(top:Int)(hp:isN n=true∧0≤top∧top≤1073741824):WW ρ 2 sF jt (n,top):=by
 simp only[jt,RR]
 unfold sF
 obtain ⟨h1,h2,h3⟩:=hp
 have hn:=dr.1 h1
 have e1: ¬top<0:=by omega
 have e2: ¬1073741824<top:=by omega
 have hm:=Int.emod_nonneg top (show (16:Int)≠0 by omega)
 have hm2:=Int.emod_lt_of_pos top (show (0:Int)<16 by omega)
 refine SUB.v1 (bb false) ?_ ?_
 ·simp (disch:=first|omega|assumption|(constructor<;>first|assumption|omega)|simp only[LN];omega) only[↓SB,S1,↓et,h1,e1,e2]
 generalize hE:jP n top=q
 unfold jP nz at hE
 simp (disch:=first|omega|assumption|(constructor<;>first|assumption|omega)|simp only[LN];omega) only[↓SB,S1,↓et]
 refine ⟨fun h=>⟨fun h4=>?_,fun h4=>?_⟩,fun h=>⟨fun h4=>?_,fun h4=>?_⟩⟩
 all_goals simp only[h,h4,if_true,if_false] at hE
 all_goals subst hE
 all_goals simp
 all_goals omega
theorem yw(n:Int)(top:Int)(hp:isN n=true∧0≤top∧top≤1073741824):WW ρ 2 lB dp (n,top):=by
 simp only[dp,RR]
 unfold lB
 obtain ⟨h1,h2,h3⟩:=hp
 have hn:=dr.1 h1
 have hm:=Int.emod_nonneg top (show (16:Int)≠0 by omega)
 have hm2:=Int.emod_lt_of_pos top (show (0:Int)<16 by omega)
 generalize hE:jP n top=q
 unfold jP nz at hE
 simp (disch:=first|omega|assumption|(constructor<;>first|assumption|omega)|simp only[LN];omega) only[↓SB,S1]
 refine ⟨fun h=>⟨fun h4=>?_,fun h4=>?_⟩,fun h=>⟨fun h4=>?_,fun h4=>?_⟩⟩
 all_goals simp only[h,h4,if_true,if_false] at hE
 all_goals subst hE
 all_goals simp
theorem JR(e:Int)(n:Int):WW ρ 2 sG ju (e,n):=by
 simp only[ju,RR]
 unfold sG;rfl
theorem FF(epoch:Int)(n:Int):WW ρ 2 qx ii (epoch,n):=by
 simp only[ii,RR]
 unfold qx;rfl
theorem JS(x:Topic)(hp:cv x=false):WW ρ 16 sH jv x:=by
 simp only[jv,RR]
 unfold sH;simp (disch:=first|omega|assumption|(constructor<;>first|assumption|omega)|simp only[LN];omega) only[↓SB,S1,↓iD];rfl
theorem uP{c:Config}{t self:Int}{x:Topic}(h:ua c t self x=0):bx c=true∧jO c t self=true∧aM c t self x=true:=by
 unfold ua at h
 split at h
 ·split at h
  ·rename_i h1 h2;rw[Bool.and_eq_true] at h2;exact ⟨h1,h2.1,h2.2⟩
  ·omega
 ·omega
theorem T9{c:Config}{t self:Int}{x:Topic}(h1:bx c=true)(h2:jO c t self=true)(h3:aM c t self x=true):ua c t self x=0:=by
 unfold ua;rw[if_pos h1,if_pos (by simp[h2,h3])]
theorem OC{c:Config}{t self:Int}{x:Topic}(h:aM c t self x=true):0≤x.top∧x.top≤1073741824∧0≤x.age∧x.age≤1000:=by
 simp only[aM,Bool.and_eq_true] at h
 have a:=aZ h.1.1.1.1.1.1.1.1.1;have b:=aZ h.1.1.1.1.1.1.1.1.2;omega
def qI:=And.intro @rO (And.intro @pO (And.intro @IR (@yg)))
theorem FH(c:Config)(t:Int)(self:Int)(x:Topic)(hp:ua c t self x=0)(hg:ag (fk (c,t,self,x)).2.1):WW ρ 25 qy fk (c,t,self,x):=by
 simp only[fk,RR] at hg ⊢
 unfold qy
 have hW:(if bx c=true then (if (jO c t self&&aM c t self x)=true then (0:Int) else 1) else 13)=0:=hp
 obtain ⟨h1,h2,h3⟩:=uP hp
 have hl:=py h1 h3
 have hb:=OC h3
 have hpl:=uL h1 h2
 have hne:isN self=true∧0≤x.top∧x.top≤1073741824:=⟨hpl.2.1,hb.1,hb.2.1⟩
 generalize hE:ak self x=q
 unfold ak at hE
 simp (disch:=first|omega|assumption|(constructor<;>first|assumption|omega)|simp only[LN];omega) only[↓SB,S1,↓qI,hW]
 refine ⟨fun a=>⟨fun b=>?_,fun b=>?_⟩,fun a=>?_⟩
 ·rw[if_pos ⟨a,b.symm⟩] at hE;subst hE;rfl
 all_goals
  rw[if_neg (by intro h;first | exact h.1 a | exact b h.2.symm)] at hE
  by_cases hz:jP self x.top=0
  ·rw[if_pos hz] at hE;subst hE;simp (disch:=first|omega|assumption|(constructor<;>first|assumption|omega)|simp only[LN];omega) only[↓SB,S1,↓qI,hz];simp[fF,L]
  ·rw[if_neg hz] at hE;subst hE;simp (disch:=first|omega|assumption|(constructor<;>first|assumption|omega)|simp only[LN];omega) only[↓SB,S1,↓qI,hz];first | done | rfl | simp[vM]
def oS:=And.intro @iD (And.intro @yf (And.intro @IU (@vU)))
theorem D6(self:Int)(x:Topic)(hp:cv x=false∧isN self=true∧0≤x.top∧x.top≤1073741824)(hg:ag (dS (self,x)).2.1):WW ρ 17 oN dS (self,x):=by
 simp only[dS,RR] at hg ⊢
 unfold oN
 obtain ⟨hl,hne⟩:=hp
 generalize hE:ak self x=q
 unfold ak at hE
 have hl2:cv x=false:=hl
 simp (disch:=first|omega|assumption|(constructor<;>first|assumption|omega)|simp only[LN];omega) only[↓SB,S1,↓oS,Topic.eta]
 refine ⟨fun a=>⟨fun b=>?_,fun b=>?_⟩,fun a=>?_⟩
 ·rw[if_pos ⟨a,b⟩] at hE;subst hE;rfl
 all_goals
  rw[if_neg (by intro h;first | exact h.1 a | exact b h.2)] at hE
  by_cases hz:jP self x.top=0
  ·rw[if_pos hz] at hE;subst hE;simp (disch:=first|omega|assumption|(constructor<;>first|assumption|omega)|simp only[LN];omega) only[↓SB,S1,↓oS,hz];simp[fF,L]
  ·rw[if_neg hz] at hE;subst hE;simp (disch:=first|omega|assumption|(constructor<;>first|assumption|omega)|simp only[LN];omega) only[↓SB,S1,↓oS,hz];first | done | rfl | simp[vM]
theorem B0(m:Msg)(hp:m.path.length≤30∧m.todo.length≤30):WW ρ 16 nr er m:=by
 simp only[er,RR]
 unfold nr;simp (disch:=first|omega|assumption|(constructor<;>first|assumption|omega)|simp only[LN];omega) only[↓SB,S1,↓jw]
theorem OD(m:Msg)(hp:m.path.length≤30∧m.todo.length≤30):WW ρ 16 wV mi m:=by
 simp only[mi,RR]
 unfold wV;simp (disch:=first|omega|assumption|(constructor<;>first|assumption|omega)|simp only[LN];omega) only[↓SB,S1,↓gJ]
end Go.Xt
end
section
set_option linter.unusedSimpArgs false
set_option linter.unusedVariables false
set_option maxRecDepth 100000
namespace Go.Xt
set_option linter.defProp false
theorem MF{n:Node}{o:Int}(h:oY n o=true): ∃(k:Nat) (p:Peer),o=k∧n.peers[k]? =some p∧p.inc≠0:=by
 simp only[oY,Bool.and_eq_true,decide_eq_true_eq] at h
 have hb:=aZ h.1
 obtain ⟨k,rfl⟩:=Int.eq_ofNat_of_zero_le hb.1
 obtain ⟨p,hp⟩:=am (xs:=n.peers) (i:=k) (by omega)
 have h2:=h.2
 simp[List.getD_eq_getElem?_getD,hp] at h2
 exact ⟨k,p,rfl,hp,h2⟩
theorem MG{self:Int}{n:Node}{x:Msg}(h:x.kind=1):ub self n x=⟨x.kind,self,n.inc,x.to,0,x.topic,x.epoch,x.seq,x.last,x.value,x.node,x.inc,x.count,x.hops,x.path,x.todo⟩:=by
 simp[ub,h]
theorem MH{self:Int}{n:Node}{x:Msg}{k:Nat}{p:Peer}(h: ¬x.kind=1)(hk:x.to=k)(hp:n.peers[k]? =some p):ub self n x=⟨x.kind,self,n.inc,x.to,p.inc,x.topic,x.epoch,x.seq,x.last,x.value,x.node,x.inc,x.count,x.hops,x.path,x.todo⟩:=by
 simp[ub,h,hk,hp,List.getD_eq_getElem?_getD]
def dj:=And.intro @Ah (And.intro @O0 (@LH))
theorem MI(self:Int)(n:Node)(l:List Msg)(hp:l.length≤1000∧n.peers.length≤12∧ ∀m∈l,m.path.length≤30∧m.todo.length≤30)(hg:ag (iT (self,n,l)).2.1):WW ρ 11 uD iT (self,n,l):=by
 simp only[iT,RR] at hg ⊢
 unfold uD kI
 obtain ⟨hl,hpl,hm⟩:=hp
 generalize hE:dz self n l=q
 simp (disch:=first|omega|assumption|(constructor<;>first|assumption|omega)|simp only[LN];omega) only[↓SB,S1,↓dj]
 refine aw.rule (α:=Nat×List Msg) (fun p=>[I p.1,L p.2]) (fun p=>p.1≤l.length∧p.2.length≤p.1∧(dz self n (l.drop p.1)).map (p.2++ ·)=q) (fun p=>l.length-p.1) (0,[]) rfl ⟨by simp,by simp,by simpa using hE⟩ (fun _=>rfl) ?_
 rintro ⟨i,a⟩ ⟨hi,ha,hs⟩
 simp only at hi ha hs
 simp only[app]
 simp (disch:=first|omega|assumption|(constructor<;>first|assumption|omega)|simp only[LN];omega) only[↓SB,S1,↓dj]
 refine ⟨fun h4=>?_,fun h4=>?_⟩
 ·obtain ⟨x,hx⟩:=am h4
  have hxm:=hm x (List.mem_of_getElem? hx)
  rw[az hx,dz] at hs
  simp (disch:=first|omega|assumption|(constructor<;>first|assumption|omega)|simp only[LN];omega) only[↓SB,S1,↓dj,ab hx]
  refine SUB.v1 (bb (!(decide (x.kind=1)||oY n x.to))) ?_ ?_
  ·repeat' (first | apply And.intro | intro _ | simp (disch:=first|omega|assumption|(constructor<;>first|assumption|omega)|simp only[LN];omega) only[↓SB,S1,↓dj])
   all_goals simp_all
  cases hk:(decide (x.kind=1)||oY n x.to)
  ·rw[if_neg (by rw[hk];simp)] at hs
   simp (disch:=first|omega|assumption|(constructor<;>first|assumption|omega)|simp only[LN];omega) only[↓SB,S1,↓dj]
   exact ⟨(i+1,a),rfl,⟨by simp;omega,by simp;omega,hs⟩,by simp;omega⟩
  rw[if_pos hk] at hs
  simp (disch:=first|omega|assumption|(constructor<;>first|assumption|omega)|simp only[LN];omega) only[↓SB,S1,↓dj]
  refine ⟨fun h5=>?_,fun h5=>?_⟩
  ·have h6:oY n x.to=true:=by simpa[h5] using hk
   obtain ⟨k,p,e1,e2,e3⟩:=MF h6
   have e4:=(List.getElem?_eq_some_iff.1 e2).1
   rw[MH h5 e1 e2] at hs
   rw[e1] at hs ⊢
   simp (disch:=first|omega|assumption|(constructor<;>first|assumption|omega)|simp only[LN];omega) only[↓SB,S1,↓dj,ab e2]
   by_cases h7:gR ⟨x.kind,self,n.inc,(k:Int),p.inc,x.topic,x.epoch,x.seq,x.last,x.value,x.node,x.inc,x.count,x.hops,x.path,x.todo⟩=true
   ·rw[if_pos h7] at hs
    simp (disch:=first|omega|assumption|(constructor<;>first|assumption|omega)|simp only[LN];omega) only[↓SB,S1,↓dj,h7]
    exact ⟨(i+1,a++[⟨x.kind,self,n.inc,(k:Int),p.inc,x.topic,x.epoch,x.seq,x.last,x.value,x.node,x.inc,x.count,x.hops,x.path,x.todo⟩]),rfl,⟨by simp;omega,by simp;omega,by simpa[Function.comp_def] using hs⟩,by simp;omega⟩
   ·rw[if_neg h7] at hs
    simp (disch:=first|omega|assumption|(constructor<;>first|assumption|omega)|simp only[LN];omega) only[↓SB,S1,↓dj,h7]
    subst hs;simp[L]
  ·rw[MG h5] at hs
   by_cases h7:gR ⟨x.kind,self,n.inc,x.to,0,x.topic,x.epoch,x.seq,x.last,x.value,x.node,x.inc,x.count,x.hops,x.path,x.todo⟩=true
   ·rw[if_pos h7] at hs
    simp (disch:=first|omega|assumption|(constructor<;>first|assumption|omega)|simp only[LN];omega) only[↓SB,S1,↓dj,h7]
    exact ⟨(i+1,a++[⟨x.kind,self,n.inc,x.to,0,x.topic,x.epoch,x.seq,x.last,x.value,x.node,x.inc,x.count,x.hops,x.path,x.todo⟩]),rfl,⟨by simp;omega,by simp;omega,by simpa[Function.comp_def] using hs⟩,by simp;omega⟩
   ·rw[if_neg h7] at hs
    simp (disch:=first|omega|assumption|(constructor<;>first|assumption|omega)|simp only[LN];omega) only[↓SB,S1,↓dj,h7]
    subst hs;simp[L]
 ·rw[aq h4] at hs
  subst hs;simp[dz]
def ct:=And.intro @wI (And.intro @AN (@LJ))
theorem FI(self:Int)(n:Node)(l:List Msg)(hp:l.length≤1000∧n.peers.length≤12∧ ∀m∈l,m.path.length≤30∧m.todo.length≤30)(hg:ag (fm (self,n,l)).2.1):WW ρ 11 qz fm (self,n,l):=by
 simp only[fm,RR] at hg ⊢
 unfold qz kI
 obtain ⟨hl,hpl,hm⟩:=hp
 generalize hE:dz self n l=q
 refine aw.rule (α:=Nat×List Msg) (fun p=>[I p.1,L p.2]) (fun p=>p.1≤l.length∧p.2.length≤p.1∧(dz self n (l.drop p.1)).map (p.2++ ·)=q) (fun p=>l.length-p.1) (0,[]) rfl ⟨by simp,by simp,by simpa using hE⟩ (fun _=>rfl) ?_
 rintro ⟨i,a⟩ ⟨hi,ha,hs⟩
 simp only at hi ha hs
 simp only[app]
 simp (disch:=first|omega|assumption|(constructor<;>first|assumption|omega)|simp only[LN];omega) only[↓SB,S1,↓ct]
 refine ⟨fun h4=>?_,fun h4=>?_⟩
 ·obtain ⟨x,hx⟩:=am h4
  have hxm:=hm x (List.mem_of_getElem? hx)
  rw[az hx,dz] at hs
  simp (disch:=first|omega|assumption|(constructor<;>first|assumption|omega)|simp only[LN];omega) only[↓SB,S1,↓ct,ab hx]
  refine ⟨fun h5=>?_,fun h5=>?_⟩
  ·refine SUB.v1 (bb (!oY n x.to)) ?_ ?_
   ·simp (disch:=first|omega|assumption|(constructor<;>first|assumption|omega)|simp only[LN];omega) only[↓SB,S1,↓ct]
    refine ⟨fun h6=>?_,fun h6=>?_⟩
    ·simp[oY,h6]
    ·have h6':=aZ (show rng x.to 0 (n.peers.length-1)=true by simpa using h6)
     obtain ⟨k,hk⟩:=Int.eq_ofNat_of_zero_le h6'.1
     obtain ⟨p,hp⟩:=am (xs:=n.peers) (i:=k) (by omega)
     rw[hk] at h6 ⊢
     simp (disch:=first|omega|assumption|(constructor<;>first|assumption|omega)|simp only[LN];omega) only[↓SB,S1,↓ct,ab hp]
     simp[oY,rng,hp,List.getD_eq_getElem?_getD]
     intro h9;omega
   cases h6:oY n x.to
   ·rw[if_neg (by simp[h5,h6])] at hs
    simp (disch:=first|omega|assumption|(constructor<;>first|assumption|omega)|simp only[LN];omega) only[↓SB,S1,↓ct]
    exact ⟨(i+1,a),rfl,⟨by simp;omega,by simp;omega,hs⟩,by simp;omega⟩
   rw[if_pos (by simp[h6])] at hs
   obtain ⟨k,p,e1,e2,e3⟩:=MF h6
   have e4:=(List.getElem?_eq_some_iff.1 e2).1
   rw[MH h5 e1 e2] at hs
   rw[e1] at hs ⊢
   simp (disch:=first|omega|assumption|(constructor<;>first|assumption|omega)|simp only[LN];omega) only[↓SB,S1,↓ct,ab e2]
   by_cases h7:gR ⟨x.kind,self,n.inc,(k:Int),p.inc,x.topic,x.epoch,x.seq,x.last,x.value,x.node,x.inc,x.count,x.hops,x.path,x.todo⟩=true
   ·rw[if_pos h7] at hs
    simp (disch:=first|omega|assumption|(constructor<;>first|assumption|omega)|simp only[LN];omega) only[↓SB,S1,↓ct,h7]
    exact ⟨(i+1,a++[⟨x.kind,self,n.inc,(k:Int),p.inc,x.topic,x.epoch,x.seq,x.last,x.value,x.node,x.inc,x.count,x.hops,x.path,x.todo⟩]),rfl,⟨by simp;omega,by simp;omega,by simpa[Function.comp_def] using hs⟩,by simp;omega⟩
   ·rw[if_neg h7] at hs
    simp (disch:=first|omega|assumption|(constructor<;>first|assumption|omega)|simp only[LN];omega) only[↓SB,S1,↓ct,h7]
    subst hs;simp[L]
  ·rw[if_pos (by simp[h5]),MG h5] at hs
   by_cases h7:gR ⟨x.kind,self,n.inc,x.to,0,x.topic,x.epoch,x.seq,x.last,x.value,x.node,x.inc,x.count,x.hops,x.path,x.todo⟩=true
   ·rw[if_pos h7] at hs
    simp (disch:=first|omega|assumption|(constructor<;>first|assumption|omega)|simp only[LN];omega) only[↓SB,S1,↓ct,h7]
    exact ⟨(i+1,a++[⟨x.kind,self,n.inc,x.to,0,x.topic,x.epoch,x.seq,x.last,x.value,x.node,x.inc,x.count,x.hops,x.path,x.todo⟩]),rfl,⟨by simp;omega,by simp;omega,by simpa[Function.comp_def] using hs⟩,by simp;omega⟩
   ·rw[if_neg h7] at hs
    simp (disch:=first|omega|assumption|(constructor<;>first|assumption|omega)|simp only[LN];omega) only[↓SB,S1,↓ct,h7]
    subst hs;simp[L]
 ·rw[aq h4] at hs
  subst hs;simp[dz]
theorem FJ(self:Int)(n:Node)(l:List Msg)(hp:l.length≤1000∧n.peers.length≤12∧ ∀m∈l,m.path.length≤30∧m.todo.length≤30)(hg:ag (fo (self,n,l)).2.1):WW ρ 11 qA fo (self,n,l):=by
 simp only[fo,RR] at hg ⊢
 unfold qA;simp (disch:=first|omega|assumption|(constructor<;>first|assumption|omega)|simp only[LN];omega) only[↓SB,S1,↓vV]
end Go.Xt
end
section
set_option linter.unusedSimpArgs false
set_option linter.unusedVariables false
set_option maxRecDepth 100000
namespace Go.Xt
set_option linter.defProp false
theorem Pt{xs:List Topic}{x y:Topic}{i:Nat}{k:PV→Prop}(h:xs[i]? =some x):(OP (.set 0) [L xs,I i,bb y.made] fun w0=>OP (.set 1) [w0,I i,bb y.sub] fun w1=>OP (.set 2) [w1,I i,I y.top] fun w2=>OP (.set 3) [w2,I i,I y.root] fun w3=>OP (.set 4) [w3,I i,I y.parent] fun w4=>OP (.set 5) [w4,I i,I y.asked] fun w5=>OP (.set 6) [w5,I i,I y.other] fun w6=>OP (.set 7) [w6,I i,I y.age] fun w7=>OP (.set 8) [w7,I i,L y.path] fun w8=>OP (.set 9) [w8,I i,L y.kids] fun w9=>OP (.set 10) [w9,I i,I y.stream.epoch] fun w10=>OP (.set 11) [w10,I i,I y.stream.want] fun w11=>OP (.set 12) [w11,I i,I y.stream.known] fun w12=>OP (.set 13) [w12,I i,L y.stream.kept] fun w13=>OP (.set 14) [w13,I i,L y.stream.ahead] fun w14=>OP (.set 15) [w14,I i,L y.queue] fun w15=>k w15)=k (L (xs.set i y)):=by
 have hl:=(List.getElem?_eq_some_iff.1 h).1
 have hg: ∀z:Topic,(xs.set i z)[i]? =some z:=fun z=>by simp[hl]
 obtain ⟨a0,a1,a2,a3,a4,a5,a6,a7,a8,a9,⟨b0,b1,b2,b3,b4⟩,a10⟩:=x
 obtain ⟨c0,c1,c2,c3,c4,c5,c6,c7,c8,c9,⟨d0,d1,d2,d3,d4⟩,c10⟩:=y
 dsimp only
 rw[bk h (j:=0) (v:=bb c0) (y:=(⟨c0,a1,a2,a3,a4,a5,a6,a7,a8,a9,⟨b0,b1,b2,b3,b4⟩,a10⟩:Topic)) rfl]
 rw[bk (hg ⟨c0,a1,a2,a3,a4,a5,a6,a7,a8,a9,⟨b0,b1,b2,b3,b4⟩,a10⟩) (j:=1) (v:=bb c1) (y:=(⟨c0,c1,a2,a3,a4,a5,a6,a7,a8,a9,⟨b0,b1,b2,b3,b4⟩,a10⟩:Topic)) rfl,List.set_set]
 rw[bk (hg ⟨c0,c1,a2,a3,a4,a5,a6,a7,a8,a9,⟨b0,b1,b2,b3,b4⟩,a10⟩) (j:=2) (v:=I c2) (y:=(⟨c0,c1,c2,a3,a4,a5,a6,a7,a8,a9,⟨b0,b1,b2,b3,b4⟩,a10⟩:Topic)) rfl,List.set_set]
 rw[bk (hg ⟨c0,c1,c2,a3,a4,a5,a6,a7,a8,a9,⟨b0,b1,b2,b3,b4⟩,a10⟩) (j:=3) (v:=I c3) (y:=(⟨c0,c1,c2,c3,a4,a5,a6,a7,a8,a9,⟨b0,b1,b2,b3,b4⟩,a10⟩:Topic)) rfl,List.set_set]
 rw[bk (hg ⟨c0,c1,c2,c3,a4,a5,a6,a7,a8,a9,⟨b0,b1,b2,b3,b4⟩,a10⟩) (j:=4) (v:=I c4) (y:=(⟨c0,c1,c2,c3,c4,a5,a6,a7,a8,a9,⟨b0,b1,b2,b3,b4⟩,a10⟩:Topic)) rfl,List.set_set]
 rw[bk (hg ⟨c0,c1,c2,c3,c4,a5,a6,a7,a8,a9,⟨b0,b1,b2,b3,b4⟩,a10⟩) (j:=5) (v:=I c5) (y:=(⟨c0,c1,c2,c3,c4,c5,a6,a7,a8,a9,⟨b0,b1,b2,b3,b4⟩,a10⟩:Topic)) rfl,List.set_set]
 rw[bk (hg ⟨c0,c1,c2,c3,c4,c5,a6,a7,a8,a9,⟨b0,b1,b2,b3,b4⟩,a10⟩) (j:=6) (v:=I c6) (y:=(⟨c0,c1,c2,c3,c4,c5,c6,a7,a8,a9,⟨b0,b1,b2,b3,b4⟩,a10⟩:Topic)) rfl,List.set_set]
 rw[bk (hg ⟨c0,c1,c2,c3,c4,c5,c6,a7,a8,a9,⟨b0,b1,b2,b3,b4⟩,a10⟩) (j:=7) (v:=I c7) (y:=(⟨c0,c1,c2,c3,c4,c5,c6,c7,a8,a9,⟨b0,b1,b2,b3,b4⟩,a10⟩:Topic)) rfl,List.set_set]
 rw[bk (hg ⟨c0,c1,c2,c3,c4,c5,c6,c7,a8,a9,⟨b0,b1,b2,b3,b4⟩,a10⟩) (j:=8) (v:=L c8) (y:=(⟨c0,c1,c2,c3,c4,c5,c6,c7,c8,a9,⟨b0,b1,b2,b3,b4⟩,a10⟩:Topic)) rfl,List.set_set]
 rw[bk (hg ⟨c0,c1,c2,c3,c4,c5,c6,c7,c8,a9,⟨b0,b1,b2,b3,b4⟩,a10⟩) (j:=9) (v:=L c9) (y:=(⟨c0,c1,c2,c3,c4,c5,c6,c7,c8,c9,⟨b0,b1,b2,b3,b4⟩,a10⟩:Topic)) rfl,List.set_set]
 rw[bk (hg ⟨c0,c1,c2,c3,c4,c5,c6,c7,c8,c9,⟨b0,b1,b2,b3,b4⟩,a10⟩) (j:=10) (v:=I d0) (y:=(⟨c0,c1,c2,c3,c4,c5,c6,c7,c8,c9,⟨d0,b1,b2,b3,b4⟩,a10⟩:Topic)) rfl,List.set_set]
 rw[bk (hg ⟨c0,c1,c2,c3,c4,c5,c6,c7,c8,c9,⟨d0,b1,b2,b3,b4⟩,a10⟩) (j:=11) (v:=I d1) (y:=(⟨c0,c1,c2,c3,c4,c5,c6,c7,c8,c9,⟨d0,d1,b2,b3,b4⟩,a10⟩:Topic)) rfl,List.set_set]
 rw[bk (hg ⟨c0,c1,c2,c3,c4,c5,c6,c7,c8,c9,⟨d0,d1,b2,b3,b4⟩,a10⟩) (j:=12) (v:=I d2) (y:=(⟨c0,c1,c2,c3,c4,c5,c6,c7,c8,c9,⟨d0,d1,d2,b3,b4⟩,a10⟩:Topic)) rfl,List.set_set]
 rw[bk (hg ⟨c0,c1,c2,c3,c4,c5,c6,c7,c8,c9,⟨d0,d1,d2,b3,b4⟩,a10⟩) (j:=13) (v:=L d3) (y:=(⟨c0,c1,c2,c3,c4,c5,c6,c7,c8,c9,⟨d0,d1,d2,d3,b4⟩,a10⟩:Topic)) rfl,List.set_set]
 rw[bk (hg ⟨c0,c1,c2,c3,c4,c5,c6,c7,c8,c9,⟨d0,d1,d2,d3,b4⟩,a10⟩) (j:=14) (v:=L d4) (y:=(⟨c0,c1,c2,c3,c4,c5,c6,c7,c8,c9,⟨d0,d1,d2,d3,d4⟩,a10⟩:Topic)) rfl,List.set_set]
 rw[bk (hg ⟨c0,c1,c2,c3,c4,c5,c6,c7,c8,c9,⟨d0,d1,d2,d3,d4⟩,a10⟩) (j:=15) (v:=L c10) (y:=(⟨c0,c1,c2,c3,c4,c5,c6,c7,c8,c9,⟨d0,d1,d2,d3,d4⟩,c10⟩:Topic)) rfl,List.set_set]
structure TOk (c:Config) (t me:Int) (x:Topic):Prop where
 top:rng x.top 0 1073741824=true
 age:rng x.age 0 1000=true
 par:iu t me x.parent=true
 ask:iu t me x.asked=true
 oth:iu t me x.other=true
 root:lY me x=true
 plc:mW x=true
 path:chk t me x.path c.depth=0
 kids:ko t me c.kids x.kids=true
 flow:dK c x.stream x.queue=true
theorem kV{c:Config}{t self:Int}{x:Topic}:aM c t self x=true↔TOk c t self x:=by
 simp only[aM,Bool.and_eq_true,decide_eq_true_eq]
 exact ⟨fun ⟨⟨⟨⟨⟨⟨⟨⟨⟨a,b⟩,d⟩,e⟩,f⟩,g⟩,h⟩,i⟩,j⟩,k⟩=>⟨a,b,d,e,f,g,h,i,j,k⟩,fun ⟨a,b,d,e,f,g,h,i,j,k⟩=>⟨⟨⟨⟨⟨⟨⟨⟨⟨a,b⟩,d⟩,e⟩,f⟩,g⟩,h⟩,i⟩,j⟩,k⟩⟩
theorem OE{c:Config}{t self:Int}{x:Topic}(h:aM c t self x=true):aM c t self (vM x)=true:=by
 rw[kV] at h ⊢
 obtain ⟨a,b,d,e,f,g,h,i,j,k⟩:=h
 refine ⟨a,by simp[rng,vM],by simp[iu,vM],by simp[iu,vM],by simp[iu,vM],?_,by simp[mW,vM],?_,j,k⟩
 ·simp only[lY,Bool.or_eq_true,Bool.and_eq_true,decide_eq_true_eq] at g ⊢
  rcases g with g | g
  ·exact .inl g
  ·exact .inr ⟨⟨g.1.1,rfl⟩,g.2⟩
 ·show chk t self [] c.depth=0
  unfold chk at i ⊢
  split at i
  ·rename_i h1
   simp only[Bool.and_eq_true] at h1
   rw[if_pos (by simp[h1.1])]
   have hd:=h1.1.1.2
   simp only[decide_eq_true_eq] at hd
   rw[if_neg (by simp;omega)];simp[pi]
  ·omega
def uQ:=And.intro @rO (And.intro @eA (And.intro @eB (And.intro @eC (@dW))))
theorem MJ(n:Node)(hp:aA n=false)(hg:ag (iU n).2.1):WW ρ 9 uE iU n:=by
 simp only[iU,RR] at hg ⊢
 unfold uE
 simp only[ag,bV,aR] at hg
 have hb:=oQ hp
 simp (disch:=first|omega|assumption|(constructor<;>first|assumption|omega)|simp only[LN];omega) only[↓SB,S1,↓uQ]
 refine aw.rule (α:=Nat) (fun i=>[I i,L (n.topics.take i)]) (fun i=>i≤n.topics.length) (fun i=>n.topics.length-i) 0 rfl (by omega) (fun _=>rfl) ?_
 intro i hl
 simp only[app]
 simp (disch:=first|omega|assumption|(constructor<;>first|assumption|omega)|simp only[LN];omega) only[↓SB,S1,↓uQ]
 refine ⟨fun hcc=>?_,fun hcc=>?_⟩
 ·obtain ⟨y,hy⟩:=am hcc
  have hx9:cv y=false:=by simpa using List.any_eq_false.1 hb.2.2.2.2.2 y (List.mem_of_getElem? hy)
  have hlt:(n.topics.take i).length=i:=by simp;omega
  simp (disch:=first|omega|assumption|(constructor<;>first|assumption|omega)|simp only[LN];omega) only[↓SB,S1,↓uQ,ab hy]
  exact ⟨i+1,by simp[yn hy],by omega,by omega⟩
 rw[List.take_of_length_le (by omega)]
end Go.Xt
end
section
set_option linter.unusedSimpArgs false
set_option linter.unusedVariables false
set_option maxRecDepth 100000
namespace Go.Xt
theorem MK{self:Int}: ∀(l:List Peer) (i:Int),(kp self i l).length≤l.length
 | [],_=>by simp[kp]
 | p::r,i=>by
  have:=MK (self:=self) r (i+1)
  rw[kp,List.length_append,List.length_cons];split<;>simp<;>omega
end Go.Xt
end
section
set_option linter.unusedSimpArgs false
set_option linter.unusedVariables false
set_option maxRecDepth 100000
namespace Go.Xt
theorem RV{t:Int}(ht:isT t=true): ∀(l:List Int) (b:Int),isN b=true→l.all isN=true→fw t b l=xU t b l
 | [],_,_,_=>rfl
 | x::r,b,hb,h=>by
  rw[List.all_cons,Bool.and_eq_true] at h
  have hb2:=dr.1 hb
  rw[fw,xU]
  have hn:fD t x b=decide (gap t x<gap t b):=by simp[fD,ht,hb,h.1]
  rw[hn]
  by_cases hc:gap t x<gap t b
  ·rw[if_pos (by simpa using hc),if_pos (.inr hc)];exact RV ht r x h.1 h.2
  ·rw[if_neg (by simpa using hc),if_neg (by omega)];exact RV ht r b hb h.2
theorem Ta{t:Int}{l:List Int}(ht:isT t=true)(h:l.all isN=true)(hne:l≠[]):(Ac t l).1=wD t l:=by
 unfold Ac wD
 rw[if_pos ht,if_pos h]
 cases l with
 | nil=>exact absurd rfl hne
 | cons x r =>
  rw[List.all_cons,Bool.and_eq_true] at h
  show fw t x (x::r)=_
  rw[xU,if_pos (.inl (by omega)),fw,ite_self];exact RV ht r x h.1 h.2
end Go.Xt
end
section
set_option linter.unusedSimpArgs false
set_option linter.unusedVariables false
set_option maxRecDepth 100000
namespace Go.Xt
set_option maxHeartbeats 4000000
theorem Tb{n top:Int}(hn:isN n=true)(h0:0≤top):top<nz n top∧nz n top≤top+16∧nz n top % 16=n:=by
 have h1:=dr.1 hn
 have hm:=Int.emod_nonneg top (show (16:Int)≠0 by omega)
 have hm2:=Int.emod_lt_of_pos top (show (0:Int)<16 by omega)
 unfold nz;split<;>omega
structure Quiet (x y:Topic):Prop where
 made:y.made=x.made
 sub:y.sub=x.sub
 top:x.top≤y.top
 kids:y.kids.length≤x.kids.length
 queue:x.queue.length≤y.queue.length
 str:y.stream=x.stream∨(y.root≠0∧y.root≠x.root)
end Go.Xt
end
section
set_option linter.unusedSimpArgs false
set_option linter.unusedVariables false
set_option maxRecDepth 100000
namespace Go.Xt
theorem JT{c:Config}{t self:Int}{x:Topic}(hc:bx c=true)(hs:isN self=true)(h:aM c t self x=true):aM c t self (Iq self x)=true:=by
 unfold Iq
 split
 ·rename_i hz
  unfold ak at hz ⊢
  split
  ·exact h
  ·rename_i hnr
   rw[if_neg hnr] at hz
   split
   ·rename_i hnz;rw[if_pos hnz] at hz;simp at hz
   ·rename_i hnz
    have hb:=OC h
    have hcb:=dh hc
    obtain ⟨u1,u2,u3⟩:=Tb hs hb.1
    have hw:jP self x.top=nz self x.top∧nz self x.top≤1073741824:=by
     unfold jP at hnz ⊢
     by_cases hq:1073741824<nz self x.top
     ·rw[if_pos hq] at hnz;exact absurd rfl hnz
     ·rw[if_neg hq];exact ⟨rfl,by omega⟩
    rw[hw.1]
    generalize nz self x.top=e at u1 u2 u3 hw ⊢
    have hl:=kV.1 (OE h)
    obtain ⟨a,b,d,e',f,g,i,j,k,l⟩:=hl
    have hep:ep e=true:=by simp only[ep,Bool.and_eq_true];exact ⟨by simp[rng];omega,by rw[u3];exact hs⟩
    refine kV.2 ⟨by simp[rng];omega,b,d,e',f,?_,i,j,k,?_⟩
    ·simp only[lY,Bool.or_eq_true,Bool.and_eq_true,decide_eq_true_eq]
     exact .inr ⟨⟨⟨⟨hep,u3⟩,by omega⟩,rfl⟩,rfl⟩
    ·simp only[dK,Bool.and_eq_true] at l ⊢
     refine ⟨?_,l.2⟩
     simp only[jN,Ph,fX,mJ,Bool.or_eq_true,Bool.and_eq_true,decide_eq_true_eq]
     exact .inr ⟨⟨⟨⟨hep,by decide⟩,by decide⟩,⟨⟨⟨⟨by decide,by simp[rng];omega⟩,decide_eq_true (by simp;omega)⟩,by simp⟩,rfl⟩⟩,⟨by decide,by simp[rng];omega⟩,rfl⟩
 ·exact h
inductive Pre (c:Config) (me:Int):Msg→Prop
 | ping (i:Int) (h0:0≤i) (h1:i<c.nodes) (h2:i≠me):Pre c me { lL with kind:=1,to:=i }
 | join (t a e:Int) (h0:0≤t) (h1:t<c.topics) (h2:a= -1∨fD t a me=true) (h3:rng e 0 1073741824=true):Pre c me { lL with kind:=2,to:=a,topic:=t,epoch:=e }
 | leave (t a:Int) (h0:0≤t) (h1:t<c.topics) (h2:a= -1∨fD t a me=true):Pre c me { lL with kind:=6,to:=a,topic:=t }
 | nack (t a e s:Int) (h0:0≤t) (h1:t<c.topics) (h2:a= -1∨fD t a me=true) (h3:rng e 1 1073741824=true) (h4:cnt s=true):Pre c me { lL with kind:=8,to:=a,topic:=t,epoch:=e,seq:=s }
structure Out (c:Config) (me:Int) (n:Node) (m:Msg):Prop where
 frm:m.frm=me
 finc:m.fromInc=n.inc
 ne:m.to≠me
 lo:0≤m.to
 hi:m.to<c.nodes
 top:m.topic<c.topics
 kind:m.kind=1∨((m.kind=2∨m.kind=6∨m.kind=8)∧m.toInc=(n.peers.getD m.to.toNat ⟨0,0⟩).inc)
end Go.Xt
end
section
set_option linter.unusedSimpArgs false
set_option linter.unusedVariables false
set_option maxRecDepth 100000
namespace Go.Xt
set_option maxHeartbeats 4000000
end Go.Xt
end
section
set_option linter.unusedSimpArgs false
set_option linter.unusedVariables false
set_option maxRecDepth 100000
namespace Go.Xt
set_option maxHeartbeats 4000000
def own(t:Int)(l:List Int):Int:=(Ac t l).1
structure NotOwn (t me nx:Int) (X:Topic):Prop where
 root:X.root=0
 free:Ci X=false→X.parent=0∧X.path=[]
 ask0:Ci X=true→X.other=0→X.asked=nx+1
 ask1:Ci X=true→X.other≠0→X.asked=X.other
end Go.Xt
end
section
set_option linter.unusedSimpArgs false
set_option linter.unusedVariables false
set_option maxRecDepth 100000
namespace Go.Xt
set_option maxHeartbeats 4000000
def lO(j:Int):Int:=(Ac j u5).1
def lT(j:Int):Topic:={ fF with made:=true,sub:=true,parent:=lO j+1,asked:=lO j+1,path:=[lO j] }
def l0(j:Int):Node:={ wN0 with peers:=(wN0.peers.set (lO j).toNat ⟨1,0⟩),topics:=wN0.topics.set j.toNat (lT j),asks:=1,calls:=[⟨1,j,0⟩] }
end Go.Xt
end
section
set_option linter.unusedSimpArgs false
set_option linter.unusedVariables false
set_option maxRecDepth 100000
namespace Go.Xt
theorem D7: ∀(l r:List Item) (n:Int),dJ n (l++r)=(dJ n l&&dJ (n+l.length) r)
 | [],r,n=>by simp[dJ]
 | x::l,r,n=>by
  simp only[List.cons_append,dJ,D7 l r,List.length_cons,Bool.and_assoc]
  rw[show n+1+(l.length:Int)=n+((l.length+1:Nat):Int) by omega]
theorem Au: ∀(l:List Item) (n:Int) (k:Nat),dJ n l=true→dJ (n+k) (l.drop k)=true
 | [],n,k,h=>by simp[dJ]
 | x::l,n,0,h=>by simpa using h
 | x::l,n,k+1,h=>by
  simp only[dJ,Bool.and_eq_true] at h
  have:=Au l (n+1) k h.2
  rw[List.drop_succ_cons,show n+((k+1:Nat):Int)=n+1+k by omega]
  exact this
theorem yx(l:List Item)(want limit v:Int):qX l want limit v=(l++[(⟨want,v⟩:Item)]).drop (l.length+1-limit.toNat):=by
 simp[qX,ol]
theorem ML(l:List Item)(want limit v:Int):(qX l want limit v).length=l.length+1-(l.length+1-limit.toNat):=by
 rw[yx];simp
theorem Tc{l:List Item}{want limit v:Int}(h:fX l want limit=true)(hv:val v=true)(hw:want<1073741824):fX (qX l want limit v) (want+1) limit=true:=by
 simp only[fX,Bool.and_eq_true,decide_eq_true_eq] at h ⊢
 obtain ⟨⟨⟨⟨h1,h2⟩,h3⟩,h4⟩,h5⟩:=h
 have b0:=sQ h1
 have b1:=aZ h2
 have hl:=ML l want limit v
 have g:dJ (want-l.length) (l++[(⟨want,v⟩:Item)])=true:=by
  rw[D7,h5];simp[dJ,hv]
 have g2:=Au _ _ (l.length+1-limit.toNat) g
 refine ⟨⟨⟨⟨?_,h2⟩,by omega⟩,by omega⟩,?_⟩
 ·simp[cnt,rng];omega
 ·rw[show want+1-((qX l want limit v).length:Int)=want-l.length+((l.length+1-limit.toNat:Nat):Int) by omega,yx]
  exact g2
theorem JU{m:Int}: ∀ {l:List Item} {p:Int},iB m p l=true→ ∀x∈l,p<x.seq∧x.seq<m∧x.seq<1073741824∧val x.value=true
 | [],p,h,x,hx=>by simp at hx
 | y::l,p,h,x,hx=>by
  simp only[iB,Bool.and_eq_true,decide_eq_true_eq] at h
  obtain ⟨⟨⟨⟨h1,h2⟩,h3⟩,h4⟩,h5⟩:=h
  rcases List.mem_cons.1 hx with rfl | hx
  ·exact ⟨h1,h2,h3,h4⟩
  ·have:=JU h5 x hx
   exact ⟨by omega,this.2⟩
theorem MM{m m':Int}(hm:m≤m'): ∀ {l:List Item} {p:Int},iB m p l=true→iB m' p l=true
 | [],p,h=>rfl
 | y::l,p,h=>by
  simp only[iB,Bool.and_eq_true,decide_eq_true_eq] at h ⊢
  exact ⟨⟨⟨⟨h.1.1.1.1,by omega⟩,h.1.1.2⟩,h.1.2⟩,MM hm h.2⟩
theorem D8{l:List Item}{want:Int}(h: ∀x∈l,want≤x.seq):uc l want=l:=by
 unfold uc
 rw[List.filter_eq_self]
 intro x hx
 have:=h x hx
 simp;omega
def JV:Int→List Item→Prop
 | _,[]=>True
 | w,x::r=>x.seq=w∧val x.value=true∧w<1073741824∧JV (w+1) r
theorem D9{m:Int}: ∀ {l:List Item} {w:Int},iB m (w-1) l=true→JV w (eg w l)∧iB m (w-1+(eg w l).length) (l.drop (eg w l).length)=true∧(∀x∈(l.drop (eg w l).length).head?,x.seq≠w+(eg w l).length)∧(eg w l).length≤l.length
 | [],w,h=>⟨trivial,rfl,by simp,by simp[eg]⟩
 | x::r,w,h=>by
  simp only[iB,Bool.and_eq_true,decide_eq_true_eq] at h
  obtain ⟨⟨⟨⟨h1,h2⟩,h3⟩,h4⟩,h5⟩:=h
  by_cases hx:x.seq=w
  ·have ih:=D9 (l:=r) (w:=w+1) (by rw[show w+1-1=x.seq by omega];exact h5)
   have e:eg w (x::r)=x::eg (w+1) r:=by rw[eg,if_pos hx]
   rw[e]
   refine ⟨⟨hx,h4,by omega,ih.1⟩,?_,?_,?_⟩
   ·rw[List.length_cons,List.drop_succ_cons,show w-1+(((eg (w+1) r).length+1:Nat):Int)=w+1-1+(eg (w+1) r).length by omega]
    exact ih.2.1
   ·rw[List.length_cons,List.drop_succ_cons,show w+(((eg (w+1) r).length+1:Nat):Int)=w+1+(eg (w+1) r).length by omega]
    exact ih.2.2.1
   ·simp;exact ih.2.2.2
  ·have e:eg w (x::r)=[]:=by rw[eg,if_neg hx]
   rw[e]
   refine ⟨trivial,?_,?_,by simp⟩
   ·simp only[List.length_nil,List.drop_zero,iB,Bool.and_eq_true,decide_eq_true_eq]
    exact ⟨⟨⟨⟨by simpa using h1,h2⟩,h3⟩,h4⟩,h5⟩
   ·simpa using hx
theorem Bn: ∀ {l:List Item} {w:Int} {i:Nat} {x:Item},JV w l→l[i]? =some x→x.seq=w+i∧val x.value=true∧w+i<1073741824
 | [],w,i,x,h,hx=>by simp at hx
 | y::l,w,0,x,h,hx=>by
  simp at hx;subst hx
  exact ⟨by simpa using h.1,h.2.1,by simpa using h.2.2.1⟩
 | y::l,w,i+1,x,h,hx=>by
  have:=Bn h.2.2.2 (by simpa using hx)
  exact ⟨by omega,this.2.1,by omega⟩
theorem Da: ∀ {l:List Item} {w:Int} (i:Nat),JV w l→JV w (l.take i)
 | [],w,i,h=>by simp[JV]
 | y::l,w,0,h=>trivial
 | y::l,w,i+1,h=>⟨h.1,h.2.1,h.2.2.1,Da i h.2.2.2⟩
def dD(c:Config)(sub:Bool)(r:Stream×List Event×List Item)(l:List Item):Stream×List Event×List Item:=l.foldl (fun r x=>eI c sub r x.value) r
theorem GP{c:Config}{sub:Bool}{r:Stream×List Event×List Item}{l:List Item}{i:Nat}{x:Item}(h:l[i]? =some x):dD c sub r (l.take (i+1))=eI c sub (dD c sub r (l.take i)) x.value:=by
 unfold dD;rw[zx h,List.foldl_append];rfl
structure SInv (c:Config) (s:Stream) (q:List Event):Prop where
 kept:fX s.kept s.want c.keep=true
 queue:bh q c.queue=true
 ep:ep s.epoch=true
 known:s.want≤s.known∧s.known≤1073741824
theorem RW{c:Config}{sub:Bool}{r:Stream×List Event×List Item}{v:Int}(h:SInv c r.1 r.2.1)(hv:val v=true)(hw:r.1.want<1073741824):SInv c (eI c sub r v).1 (eI c sub r v).2.1:=by
 refine ⟨Tc h.kept hv hw,?_,h.ep,?_⟩
 ·show bh (if sub=true then _ else _) _=true
  split
  ·exact RJ h.queue
  ·exact h.queue
 ·have:=h.known
  show r.1.want+1≤max r.1.known (r.1.want+1)∧max r.1.known (r.1.want+1)≤1073741824
  omega
theorem yy{c:Config}{sub:Bool}: ∀ {l:List Item} {r:Stream×List Event×List Item},JV r.1.want l→SInv c r.1 r.2.1 →
  SInv c (dD c sub r l).1 (dD c sub r l).2.1∧(dD c sub r l).1.want=r.1.want+l.length∧(dD c sub r l).1.ahead=r.1.ahead∧(dD c sub r l).1.epoch=r.1.epoch∧(dD c sub r l).2.2=r.2.2++l
 | [],r,h,hi=>⟨hi,by simp[dD],rfl,rfl,by simp[dD]⟩
 | x::l,r,h,hi=>by
  have ho:=RW (sub:=sub) hi h.2.1 (by have:=h.2.2.1;omega)
  have hx:(⟨r.1.want,x.value⟩:Item)=x:=by rw[←h.1]
  have ih:=yy (c:=c) (sub:=sub) (l:=l) (r:=eI c sub r x.value) h.2.2.2 ho
  refine ⟨ih.1,?_,ih.2.2.1,ih.2.2.2.1,?_⟩
  ·have:=ih.2.1
   show _=_
   simp only[List.length_cons]
   have e:(eI c sub r x.value).1.want=r.1.want+1:=rfl
   have e2:dD c sub r (x::l)=dD c sub (eI c sub r x.value) l:=rfl
   rw[e2];omega
  ·have e2:dD c sub r (x::l)=dD c sub (eI c sub r x.value) l:=rfl
   have e3:(eI c sub r x.value).2.2=r.2.2++[⟨r.1.want,x.value⟩]:=rfl
   rw[e2,ih.2.2.2.2,e3,hx];simp
structure FOk (c:Config) (s:Stream) (q:List Event):Prop where
 inv:SInv c s q
 ahd:iB (s.want+c.window) s.want s.ahead=true
 win:rng c.window 1 16=true
 cw:cnt s.want=true
theorem Db{c:Config}{s:Stream}{q:List Event}(h:dK c s q=true)(he:ep s.epoch=true):FOk c s q:=by
 have e1:s.epoch≠0:=by intro e0;rw[e0] at he;simp[ep,rng] at he
 simp only[dK,jN,Bool.and_eq_true,Bool.or_eq_true] at h
 obtain ⟨h1 | h1,h2⟩:=h
 ·simp[nI,e1] at h1
 ·obtain ⟨⟨⟨⟨h3,h4⟩,h5⟩,h6⟩,h7⟩:=h1
  have:=aZ h5
  simp only[mJ,Bool.and_eq_true] at h7
  exact ⟨⟨h6,h2,he,this⟩,h7.2,h7.1.2,h4⟩
theorem FOk.flow{c:Config}{s:Stream}{q:List Event}(h:FOk c s q):dK c s q=true:=by
 simp only[dK,jN,Bool.and_eq_true,Bool.or_eq_true,mJ]
 refine ⟨.inr ⟨⟨⟨⟨h.inv.ep,h.cw⟩,?_⟩,h.inv.kept⟩,⟨h.cw,h.win⟩,h.ahd⟩,h.inv.queue⟩
 have:=h.inv.known
 simp[rng];omega
structure ItemOk (c:Config) (s:Stream) (sub:Bool) (q:List Event) (v:Int):Prop where
 still:uc s.ahead (s.want+1)=s.ahead
 one:SInv c (eI c sub (s,q,[]) v).1 (eI c sub (s,q,[]) v).2.1
 seq:JV (s.want+1) (bu s.ahead (s.want+1))
 flow:FOk c (ce c s sub q v).1 (ce c s sub q v).2.1
 len:(bu s.ahead (s.want+1)).length≤s.ahead.length
theorem yz{c:Config}{s:Stream}{sub:Bool}{q:List Event}{v:Int}(h:FOk c s q)(hv:val v=true)(hw:s.want<1073741824):ItemOk c s sub q v:=by
 have hb:=JU h.ahd
 have e1:uc s.ahead (s.want+1)=s.ahead:=D8 fun x hx=>by have:=(hb x hx).1;omega
 have ho:=RW (c:=c) (sub:=sub) (r:=(s,q,[])) h.inv hv hw
 have hr:=D9 (m:=s.want+c.window) (l:=s.ahead) (w:=s.want+1) (by rw[show s.want+1-1=s.want by omega];exact h.ahd)
 have e2:bu s.ahead (s.want+1)=eg (s.want+1) s.ahead:=by rw[bu,e1]
 have e3:qY s.ahead (s.want+1)=s.ahead.drop (eg (s.want+1) s.ahead).length:=by rw[qY,e1,e2]
 have hf:=yy (c:=c) (sub:=sub) (l:=bu s.ahead (s.want+1)) (r:=eI c sub (s,q,[]) v) (by rw[e2];exact hr.1) ho
 refine ⟨e1,ho,by rw[e2];exact hr.1,?_,by rw[e2];exact hr.2.2.2⟩
 have g1:(ce c s sub q v).1={ (dD c sub (eI c sub (s,q,[]) v) (bu s.ahead (s.want+1))).1 with ahead:=qY s.ahead (s.want+1) }:=rfl
 have g2:(ce c s sub q v).2=(dD c sub (eI c sub (s,q,[]) v) (bu s.ahead (s.want+1))).2:=rfl
 have hw2:(ce c s sub q v).1.want=s.want+1+(eg (s.want+1) s.ahead).length:=by
  rw[g1];show (dD c sub (eI c sub (s,q,[]) v) (bu s.ahead (s.want+1))).1.want=_
  rw[hf.2.1,e2];rfl
 have hwb:=aZ h.win
 have hk:=hf.1.known
 refine ⟨⟨?_,?_,?_,?_⟩,?_,h.win,?_⟩
 ·rw[g1];exact hf.1.kept
 ·rw[g2];exact hf.1.queue
 ·rw[g1];exact hf.1.ep
 ·rw[g1];exact hk
 ·rw[hw2,g1]
  show iB _ _ (qY s.ahead (s.want+1))=true
  rw[e3]
  have h3:=MM (m':=s.want+1+((eg (s.want+1) s.ahead).length:Int)+c.window) (by omega) hr.2.1
  have h4:=hr.2.2.1
  generalize hl:s.ahead.drop (eg (s.want+1) s.ahead).length=l at h3 h4 ⊢
  cases l with
  | nil=>rfl
  | cons x r =>
   simp only[iB,Bool.and_eq_true,decide_eq_true_eq] at h3 ⊢
   have h5:=h4 x (by simp)
   exact ⟨⟨⟨⟨by omega,by omega⟩,h3.1.1.2⟩,h3.1.2⟩,h3.2⟩
 ·have hc:=sQ h.cw
  have hk2:(dD c sub (eI c sub (s,q,[]) v) (bu s.ahead (s.want+1))).1.want≤1073741824:=by omega
  rw[hf.2.1,e2] at hk2
  have:(eI c sub (s,q,[]) v).1.want=s.want+1:=rfl
  rw[hw2];simp[cnt,rng];omega
end Go.Xt
end
section
set_option linter.unusedSimpArgs false
set_option linter.unusedVariables false
set_option maxRecDepth 100000
namespace Go.Xt
theorem x3{c:Config}{s:Stream}{sub:Bool}{q:List Event}{v:Int}(h:FOk c s q)(hv:val v=true)(hw:s.want<1073741824) :
  (ce c s sub q v).1.epoch=s.epoch∧(ce c s sub q v).2.2=⟨s.want,v⟩::bu s.ahead (s.want+1)∧(ce c s sub q v).1.want=s.want+1+(bu s.ahead (s.want+1)).length:=by
 have H:=yz (sub:=sub) h hv hw
 have hf:=yy (c:=c) (sub:=sub) (l:=bu s.ahead (s.want+1)) (r:=eI c sub (s,q,[]) v) H.seq H.one
 refine ⟨hf.2.2.2.1,?_,hf.2.1⟩
 have:=hf.2.2.2.2
 rw[show (eI c sub (s,q,[]) v).2.2=[⟨s.want,v⟩] from rfl] at this
 exact this
theorem Tn{n top:Int}(h0:0≤n)(h1:n<16):top<nz n top:=by
 unfold nz
 have:=Int.emod_nonneg top (show (16:Int)≠0 by omega)
 have:=Int.emod_lt_of_pos top (show (0:Int)<16 by omega)
 split<;>omega
structure BOk (c:Config) (t me:Int) (x y:Topic):Prop where
 ok:aM c t me y=true
 root:y.root≠0
 top:y.root=y.top
 le:x.root≤y.root
 ep:ep y.root=true
 epoch:y.stream.epoch=y.root
 flow:FOk c y.stream y.queue
 kids:y.kids=x.kids
 sub:y.sub=x.sub
 queue:y.queue=x.queue
 made:y.made=x.made
theorem zC{c:Config}{t self:Int}{x:Topic}(hw:ua c t self x=0)(h0:(ak self x).2=0):BOk c t self x (ak self x).1:=by
 obtain ⟨hc,hp,ht⟩:=uP hw
 have hpb:=uL hc hp
 have hs:=dr.1 hpb.2.1
 have hB:=JT hc hpb.2.1 ht
 unfold Iq at hB
 rw[if_pos h0] at hB
 have hT:=kV.1 hB
 have hx:=kV.1 ht
 have hd:(ak self x).1.root≠0∧(ak self x).1.root=(ak self x).1.top∧x.root≤(ak self x).1.root∧(ak self x).1.kids=x.kids∧(ak self x).1.sub=x.sub∧(ak self x).1.queue=x.queue∧(ak self x).1.made=x.made:=by
  unfold ak at h0 ⊢
  split
  ·rename_i h;exact ⟨h.1,h.2,Int.le_refl _,rfl,rfl,rfl,rfl⟩
  ·rename_i h
   rw[if_neg h] at h0
   split
   ·rename_i h2;rw[if_pos h2] at h0;simp at h0
   ·rename_i h2
    refine ⟨h2,rfl,?_,rfl,rfl,rfl,rfl⟩
    have hn:jP self x.top=nz self x.top:=by
     unfold jP at h2 ⊢
     split
     ·rename_i h3;rw[if_pos h3] at h2;exact absurd rfl h2
     ·rfl
    have hle:x.root≤x.top:=by
     have hr:=hx.root
     have htb:=aZ hx.top
     simp only[lY,Bool.or_eq_true,Bool.and_eq_true,decide_eq_true_eq] at hr
     omega
    have:=Tn (n:=self) (top:=x.top) (by omega) (by omega)
    show x.root≤jP self x.top
    omega
 obtain ⟨d1,d2,d3,d4,d5,d6,d7⟩:=hd
 have hr:=hT.root
 simp only[lY,Bool.or_eq_true,Bool.and_eq_true,decide_eq_true_eq] at hr
 rcases hr with hr | hr
 ·exact absurd hr d1
 ·obtain ⟨⟨⟨⟨h1,h2⟩,h3⟩,h4⟩,h5⟩:=hr
  exact ⟨hB,d1,d2,d3,h1,h5,Db hT.flow (by rw[h5];exact h1),d4,d5,d6,d7⟩
theorem OG{c:Config}{t self:Int}{y:Topic}{s:Stream}{q:List Event}(h:aM c t self y=true)(hf:FOk c s q)(he:s.epoch=y.stream.epoch):aM c t self { y with stream:=s,queue:=q }=true:=by
 rw[kV] at h ⊢
 refine ⟨h.top,h.age,h.par,h.ask,h.oth,?_,h.plc,h.path,h.kids,hf.flow⟩
 have:=h.root
 simp only[lY,he] at this ⊢
 exact this
structure AOk (c:Config) (t me:Int) (x:Topic) (v:Int) (y:Topic):Prop where
 B:BOk c t me x y
 want:y.stream.want<1073741823
 item:FOk c (ce c y.stream y.sub y.queue v).1 (ce c y.stream y.sub y.queue v).2.1
 ok:aM c t me { y with stream:=(ce c y.stream y.sub y.queue v).1,queue:=(ce c y.stream y.sub y.queue v).2.1 }=true
 eq:au c t me x v=({ y with stream:=(ce c y.stream y.sub y.queue v).1,queue:=(ce c y.stream y.sub y.queue v).2.1 },jQ t { y with stream:=(ce c y.stream y.sub y.queue v).1,queue:=(ce c y.stream y.sub y.queue v).2.1 } (ce c y.stream y.sub y.queue v).2.2,0)
theorem vt{c:Config}{t self:Int}{x:Topic}{v:Int}(hw:ua c t self x=0)(hv:val v=true)(h0:(au c t self x v).2.2=0):AOk c t self x v (ak self x).1:=by
 unfold au at h0
 by_cases h1:(ak self x).2≠0
 ·rw[if_pos h1] at h0;exact absurd h0 h1
 rw[if_neg h1] at h0
 by_cases h2:1073741823≤(ak self x).1.stream.want
 ·rw[if_pos h2] at h0;simp at h0
 have hB:=zC hw (by simpa using h1)
 have hI:=yz (sub:=(ak self x).1.sub) hB.flow hv (by omega)
 have hE:=x3 (sub:=(ak self x).1.sub) hB.flow hv (by omega)
 refine ⟨hB,by omega,hI.flow,OG hB.ok hI.flow hE.1,?_⟩
 unfold au
 rw[if_neg h1,if_neg h2]
theorem yA{c:Config}{t self:Int}{x:Topic}(h:aM c t self x=true):x.kids.length≤4:=by
 have hk:=(kV.1 h).kids
 simp only[ko,Bool.and_eq_true,decide_eq_true_eq] at hk
 have:=aZ hk.1.1.2
 omega
def pA(t:Int)(x:Topic)(i:Item)(k:Kid):Msg:={ lL with kind:=7,to:=k.node,topic:=t,epoch:=x.stream.epoch,seq:=i.seq,value:=i.value }
theorem GQ{t:Int}{x:Topic}{on:List Item}{i:Nat}{y:Item}(h:on[i]? =some y):jQ t x (on.take (i+1))=jQ t x (on.take i)++x.kids.map (pA t x y):=by
 unfold jQ;rw[zx h,List.flatMap_append];simp[pA]
theorem yB(t:Int)(x:Topic): ∀(on:List Item),(jQ t x on).length=on.length*x.kids.length
 | []=>by simp[jQ]
 | y::r=>by
  have ih:=yB t x r
  unfold jQ at ih ⊢
  rw[List.flatMap_cons,List.length_append,ih,List.length_map,List.length_cons,Nat.succ_mul];omega
theorem vu{t:Int}{x:Topic}{on:List Item}{m:Msg}(h:m∈jQ t x on):m.path=[]∧m.todo=[]∧m.kind=7∧m.topic=t:=by
 unfold jQ at h
 obtain ⟨i,_,h⟩:=List.mem_flatMap.1 h
 obtain ⟨k,_,rfl⟩:=List.mem_map.1 h
 exact ⟨rfl,rfl,rfl,rfl⟩
end Go.Xt
end
section
set_option linter.unusedSimpArgs false
set_option linter.unusedVariables false
set_option maxRecDepth 100000
namespace Go.Xt
theorem mz{c:Config}{self:Int}{n:Node}{t:Int}(h:bt c self n t=0):ax c self n=0∧rng t 0 (c.topics-1)=true:=by
 unfold bt at h
 split at h
 ·rename_i h1
  split at h
  ·rename_i h2;exact ⟨h1,h2⟩
  ·omega
 ·rename_i h1;exact absurd h h1
theorem pB{c:Config}{self:Int}{n:Node}{t:Int}(h1:ax c self n=0)(h2:rng t 0 (c.topics-1)=true):bt c self n t=0:=by
 unfold bt;rw[if_pos h1,if_pos h2]
theorem zD{c:Config}{self:Int}{n:Node}{t:Int}(h:aH c self n t=0):ax c self n=0∧rng t 0 (c.topics-1)=true∧(bi n t).made=true:=by
 unfold aH at h
 split at h
 ·rename_i h1
  split at h
  ·rename_i h2;exact ⟨(mz h1).1,(mz h1).2,h2⟩
  ·omega
 ·rename_i h1;exact absurd h h1
theorem mB{c:Config}{self:Int}{n:Node}{t:Int}(h1:ax c self n=0)(h2:rng t 0 (c.topics-1)=true)(h3:(bi n t).made=true):aH c self n t=0:=by
 unfold aH;rw[if_pos (pB h1 h2),if_pos h3]
theorem o4{c:Config}{self:Int}{n:Node}{t:Int}(h1:ax c self n=0)(h2:rng t 0 (c.topics-1)=true)(h3:(bi n t).made=false):aH c self n t=7:=by
 unfold aH;rw[if_pos (pB h1 h2),if_neg (by rw[h3];simp)]
structure AtOk (c:Config) (me:Int) (n:Node) (k:Nat) (x:Topic):Prop where
 get:n.topics[k]? =some x
 ok:aM c k me x=true
 at_:bi n k=x
 lt:k<n.topics.length
theorem lQ{c:Config}{self:Int}{n:Node}{t:Int}(h1:ax c self n=0)(h2:rng t 0 (c.topics-1)=true): ∃(k:Nat) (x:Topic),t=k∧AtOk c self n k x:=by
 obtain ⟨hc,hs,hu,H⟩:=ca h1
 have hb:=aZ h2
 have htl:=H.tl
 obtain ⟨k,rfl⟩:=Int.eq_ofNat_of_zero_le hb.1
 obtain ⟨x,hx⟩:=am (xs:=n.topics) (i:=k) (by omega)
 exact ⟨k,x,rfl,hx,by simpa using rg H.tops hx,by simp[bi,List.getD_eq_getElem?_getD,hx],by omega⟩
theorem JW{n:Node}{k:Nat}{x:Topic}(h:k<n.topics.length):bi (bp n k x) k=x:=by
 simp[bi,bp,List.getD_eq_getElem?_getD,h]
theorem MN(n:Node)(t:Int)(x y:Topic):bp (bp n t x) t y=bp n t y:=by
 simp[bp]
theorem OH{n:Node}{k:Nat}{x:Topic}(h:n.topics[k]? =some x):bp n k x=n:=by
 unfold bp
 have:n.topics.set k x=n.topics:=by
  obtain ⟨h1,h2⟩:=List.getElem?_eq_some_iff.1 h
  rw[←h2];exact List.set_getElem_self h1
 rw[Int.toNat_natCast,this]
theorem ri{c:Config}{self:Int}{n:Node}{k:Nat}{x:Topic}(h:ax c self n=0)(hk:k<n.topics.length)(hx:aM c k self x=true):ax c self (bp n k x)=0:=by
 obtain ⟨hc,hs,hu,H⟩:=ca h
 exact Ox hc hs hu ⟨H.inc,H.pubs,H.asks,H.calls,H.cl,H.pl,by rw[←H.tl];simp[bp],H.ml,H.kl,D0 H.tops (by simpa using hx),H.peers,H.marks,H.taken⟩
theorem Qp{limit:Int}(h:rng limit 2 32=true):bh [] limit=true:=by
 have:=aZ h
 rw[kU];refine ⟨h,by simp;omega,rfl,.inl (by simp;omega)⟩
theorem Dc{x:Event}{l:List Event}{limit:Int}(h:bh (x::l) limit=true):bh l limit=true:=by
 rw[kU] at h ⊢
 obtain ⟨h1,h2,h3,h4⟩:=h
 simp only[List.length_cons] at h2
 rw[List.all_cons,Bool.and_eq_true] at h3
 exact ⟨h1,by omega,h3.2,.inl (by omega)⟩
theorem Qq{c:Config}(h:bx c=true):rng c.queue 2 32=true:=by
 simp only[bx,Bool.and_eq_true] at h;exact h.2
theorem OI{c:Config}{t self:Int}{x:Topic}{b:Bool}(h:aM c t self x=true):aM c t self { x with made:=b }=true:=h
theorem zE{c:Config}{t self:Int}{x:Topic}{b:Bool}(hc:bx c=true)(h:aM c t self x=true):aM c t self { x with sub:=b,queue:=[] }=true :=
 pz (x:={ x with sub:=b }) h (Qp (Qq hc))
theorem Dd{c:Config}{self:Int}(hc:bx c=true): ∀(l:List Topic) (t:Int),bI c self t l=true→l.any cv=false
 | [],_,_=>rfl
 | x::r,t,h=>by
  rw[bI,Bool.and_eq_true] at h
  rw[List.any_cons,py hc h.1,Dd hc r (t+1) h.2];rfl
theorem rj{c:Config}{self:Int}{n:Node}(h:ax c self n=0):aA n=false:=by
 obtain ⟨hc,hs,hu,H⟩:=ca h
 have hb:=dh hc
 have h1:=H.pl;have h2:=H.tl;have h3:=H.ml;have h4:=H.cl;have h5:=H.kl
 unfold aA
 rw[Dd hc _ _ H.tops]
 simp;omega
theorem JX{c:Config}{self:Int}{n:Node}{t:Int}{sub:Bool}{why:Int}(h1:aH c self n t=0)(h2: ¬(bi n t).sub=sub):cN c self n t sub why=(bp n t { bi n t with sub:=sub,queue:=[] },0):=by
 unfold cN;rw[if_pos h1,if_neg h2]
theorem JY{c:Config}{self:Int}{n:Node}{t:Int}{sub:Bool}{why:Int}(h1:aH c self n t=0)(h2:(bi n t).sub=sub):cN c self n t sub why=(ba,why):=by
 unfold cN;rw[if_pos h1,if_pos h2]
theorem JZ{c:Config}{self:Int}{n:Node}{t:Int}{sub:Bool}{why:Int}(h1: ¬aH c self n t=0):cN c self n t sub why=(ba,aH c self n t):=by
 unfold cN;rw[if_neg h1]
theorem rk{c:Config}{self:Int}{n:Node}{t:Int}{x:Event}{r:List Event}(h1:aH c self n t=0)(h2:(bi n t).queue=x::r):dL c self n t=(bp n t { bi n t with queue:=r },x,0):=by
 unfold dL;rw[if_pos h1,h2]
theorem uR{c:Config}{self:Int}{n:Node}{t:Int}(h1:aH c self n t=0)(h2:(bi n t).queue=[]):dL c self n t=(ba,cx,10):=by
 unfold dL;rw[if_pos h1,h2]
theorem K0{c:Config}{self:Int}{n:Node}{t:Int}(h1: ¬aH c self n t=0):dL c self n t=(ba,cx,aH c self n t):=by
 unfold dL;rw[if_neg h1]
theorem K1{c:Config}{self:Int}{n:Node}{k:Nat}{x:Topic}(h:ax c self n=0)(A:AtOk c self n k x)(hm:x.made=true): ∀(i:Nat),i≤x.queue.length →
  ax c self (bp n k { x with queue:=x.queue.drop i })=0∧bh (x.queue.drop i) c.queue=true∧rng (k:Int) 0 (c.topics-1)=true∧aH c self (bp n k { x with queue:=x.queue.drop i }) k=0
 | i,hi=>by
  have hq: ∀(j:Nat) (l:List Event),bh l c.queue=true→bh (l.drop j) c.queue=true:=by
   intro j
   induction j with
   | zero=>intro l h;simpa using h
   | succ j ih =>
    intro l h
    cases l with
    | nil=>simpa using h
    | cons y r=>rw[List.drop_succ_cons];exact ih r (Dc h)
  have h1:=hq i x.queue (sX A.ok)
  obtain ⟨hc,hs,hu,H⟩:=ca h
  have hlt:=A.lt
  have htl:=H.tl
  have h2:rng (k:Int) 0 (c.topics-1)=true:=by simp[rng];omega
  have h3:=ri h A.lt (pz A.ok h1)
  exact ⟨h3,h1,h2,mB h3 h2 (by rw[JW A.lt];exact hm)⟩
theorem Td{c:Config}{self:Int}{n:Node}(h:ax c self n=0)(hp:n.pubs<1073741824):ax c self { n with pubs:=n.pubs+1 }=0:=by
 obtain ⟨hc,hs,hu,H⟩:=ca h
 have:=aZ H.pubs
 exact Ox hc hs hu ⟨H.inc,by simp[rng];omega,H.asks,H.calls,H.cl,H.pl,H.tl,H.ml,H.kl,H.tops,H.peers,H.marks,H.taken⟩
end Go.Xt
end
section
set_option linter.unusedSimpArgs false
set_option linter.unusedVariables false
set_option maxRecDepth 100000
namespace Go.Xt
set_option linter.defProp false
set_option maxHeartbeats 4000000
theorem MO{l:List Item}{want limit:Int}(h:fX l want limit=true):1≤limit∧limit≤16∧(l.length:Int)≤limit∧1≤want:=by
 simp only[fX,Bool.and_eq_true,decide_eq_true_eq] at h
 have:=aZ h.1.1.1.2
 have:=sQ h.1.1.1.1
 omega
def uS:=And.intro @cn (And.intro @aE (@xZ))
theorem MP(l:List Item)(want:Int)(limit:Int)(value:Int)(hp:fX l want limit=true∧val value=true∧want<1073741824)(hg:ag (iV (l,want,limit,value)).2.1):WW ρ 4 uF iV (l,want,limit,value):=by
 simp only[iV,RR] at hg ⊢
 unfold uF
 obtain ⟨h1,h2,h3⟩:=hp
 generalize hE:qX l want limit value=q
 rw[yx] at hE
 have hk:=MO h1
 simp (disch:=first|omega|assumption|(constructor<;>first|assumption|omega)|simp only[LN];omega) only[↓SB,S1,↓uS,h1,h2,↓dt (a_seq:=want)]
 refine SUB.v1 (bb false) ?_ ?_
 ·simp (disch:=first|omega|assumption|(constructor<;>first|assumption|omega)|simp only[LN];omega) only[↓SB,S1,↓uS,h1,h2]
 have hl:(l++[(⟨want,value⟩:Item)]).length=l.length+1:=by simp
 have hx:(max (((l++[(⟨want,value⟩:Item)]).length:Int)-limit) 0).toNat=l.length+1-limit.toNat:=by omega
 have hq:q.length≤1000000:=by rw[←hE];simp;omega
 rw[hx,hE]
 simp (disch:=first|omega|assumption|(constructor<;>first|assumption|omega)|simp only[LN];omega) only[↓SB,S1,↓uS]
 exact fun h=>absurd h (by omega)
theorem K2(l:List Event)(hp:l.length≤1000000)(hg:ag (gE l).2.1):WW ρ 1 sJ gE l:=by
 simp only[gE,RR] at hg ⊢
 unfold sJ
 simp only[ag,aR] at hg
 cases l with
 | nil=>simp (disch:=first|omega|assumption|(constructor<;>first|assumption|omega)|simp only[LN];omega) only[↓SB,S1,↓aK];simp[cx,L]
 | cons x r =>
  have h0:(x::r)[0]? =some x:=rfl
  have hc: ∀j,(L (x::r)).cellAt (I 0) j=look (Row.row x) j:=fun j=>ab (i:=0) h0
  have e1:List.drop (Int.toNat 1) (x::r)=r:=rfl
  have hr:r.length≤1000000:=by simp at hp;omega
  simp (disch:=first|omega|assumption|(constructor<;>first|assumption|omega)|simp only[LN];omega) only[↓SB,S1,↓aK,hc]
  refine ⟨fun h=>absurd h (by simp;omega),fun _=>?_⟩
  rw[e1]
  simp (disch:=first|omega|assumption|(constructor<;>first|assumption|omega)|simp only[LN];omega) only[↓SB,S1,↓aK]
  rfl
def MQ:=And.intro @Iw (@Ai)
theorem MR(self:Int)(n:Node)(t:Int)(hp:bB n.peers=true∧rng self 0 (n.peers.length-1)=true∧isT t=true)(hg:ag (iY (self,n,t)).2.1):WW ρ 11 uI iY (self,n,t):=by
 simp only[iY,RR] at hg ⊢
 unfold uI
 obtain ⟨h1,h2,h3⟩:=hp
 have hb:=re h1
 have hr:=aZ h2
 have hpl:pI n.peers self=0:=by unfold pI;rw[if_pos h1,if_pos (by omega)]
 simp (disch:=first|omega|assumption|(constructor<;>first|assumption|omega)|simp only[LN];omega) only[↓SB,S1,↓MQ,hpl]
 rfl
theorem MS(t:Int)(x:Topic)(on:List Item)(hp:on.length≤1000∧x.kids.length≤1000)(hg:ag (iX (t,x,on)).2.1):WW ρ 18 uH iX (t,x,on):=by
 simp only[iX,RR] at hg ⊢
 unfold uH
 obtain ⟨h1,h2⟩:=hp
 simp (disch:=first|omega|assumption|(constructor<;>first|assumption|omega)|simp only[LN];omega) only[↓SB,S1]
 have hmul: ∀i,i≤on.length→(jQ t x (on.take i)).length≤1000000:=by
  intro i hi
  rw[yB]
  have a:(on.take i).length≤1000:=by simp;omega
  exact Nat.le_trans (Nat.mul_le_mul a h2) (by decide)
 refine aw.rule (α:=Nat) (fun i=>[I i,L (jQ t x (on.take i))]) (fun i=>i≤on.length) (fun i=>on.length-i) 0 rfl (by omega) (fun _=>rfl) ?_
 intro i hi
 simp only[app]
 simp (disch:=first|omega|assumption|(constructor<;>first|assumption|omega)|simp only[LN];omega) only[↓SB,S1]
 refine ⟨fun h4=>?_,fun h4=>?_⟩
 ·obtain ⟨y,hy⟩:=am h4
  have hs:=GQ (t:=t) (x:=x) hy
  have hm:=hmul i hi
  simp (disch:=first|omega|assumption|(constructor<;>first|assumption|omega)|simp only[LN];omega) only[↓SB,S1,ab hy]
  refine aw.rule (α:=Nat) (fun k=>[I k,L (jQ t x (on.take i)++(x.kids.take k).map (pA t x y))]) (fun k=>k≤x.kids.length) (fun k=>x.kids.length-k) 0 (by simp) (by omega) (fun _=>rfl) ?_
  intro k hk
  simp only[app]
  simp (disch:=first|omega|assumption|(constructor<;>first|assumption|omega)|simp only[LN];omega) only[↓SB,S1]
  refine ⟨fun h5=>?_,fun h5=>?_⟩
  ·obtain ⟨z,hz⟩:=am h5
   have hlk:((x.kids.take k).map (pA t x y)).length≤1000:=by simp;omega
   simp (disch:=first|omega|assumption|(constructor<;>first|assumption|omega)|simp only[LN];omega) only[↓SB,S1,ab hz,↓sW]
   exact ⟨k+1,by rw[zx hz];simp[pA,lL],by omega,by omega⟩
  ·have hke:k=x.kids.length:=by omega
   subst hke
   exact ⟨i+1,by rw[hs];simp,by omega,by omega⟩
 ·have:i=on.length:=by omega
  subst this
  simp
end Go.Xt
end
section
set_option linter.unusedSimpArgs false
set_option linter.unusedVariables false
set_option maxRecDepth 100000
namespace Go.Xt
set_option linter.defProp false
set_option maxHeartbeats 4000000
theorem GR{l:List Item}{want limit:Int}(h:fX l want limit=true):l.length≤16:=by have:=MO h;omega
theorem De{c:Config}{s:Stream}{q:List Event}(h:FOk c s q):s.ahead.length≤16:=by
 have:=Jx _ _ h.ahd
 have:=aZ h.win
 omega
theorem K3{c:Config}{s:Stream}{q:List Event}(h:SInv c s q):s.kept.length≤16∧q.length≤32:=by
 have h1:=GR h.kept
 have h2:=kD h.queue
 omega
structure RunAt (c:Config) (s:Stream) (sub:Bool) (q:List Event) (v:Int) (i:Nat) (r:Stream×List Event×List Item):Prop where
 inv:SInv c r.1 r.2.1
 want:r.1.want=s.want+1+i
 epoch:r.1.epoch=s.epoch
 on:r.2.2.length=i+1
 eq:dD c sub (eI c sub (s,q,[]) v) ((bu s.ahead (s.want+1)).take i)=r
theorem Ul{c:Config}{s:Stream}{sub:Bool}{q:List Event}{v:Int}(H:ItemOk c s sub q v){i:Nat}(hi:i≤(bu s.ahead (s.want+1)).length) :
  RunAt c s sub q v i (dD c sub (eI c sub (s,q,[]) v) ((bu s.ahead (s.want+1)).take i)):=by
 have hf:=yy (c:=c) (sub:=sub) (l:=(bu s.ahead (s.want+1)).take i) (r:=eI c sub (s,q,[]) v) (Da i H.seq) H.one
 obtain ⟨h1,h2,h3,h4,h5⟩:=hf
 have hl:((bu s.ahead (s.want+1)).take i).length=i:=by rw[List.length_take];omega
 refine ⟨h1,?_,?_,?_,rfl⟩
 ·rw[h2,hl];rfl
 ·rw[h4];rfl
 ·rw[h5,List.length_append,hl];show 1+i=i+1;omega
def bF:=And.intro @aK (And.intro @cn (And.intro @Ag (And.intro @yg (And.intro @jT (And.intro @LS (And.intro @aE (And.intro @yb (And.intro @LK (@IV)))))))))
theorem MT(c:Config)(s:Stream)(sub:Bool)(q:List Event)(at_:Int)(x:Item)(hp:bx c=true∧dK c s q=true∧at_=s.epoch∧ep at_=true∧x.seq=s.want∧s.want<1073741823∧val x.value=true)(hg:ag (iW (c,s,sub,q,at_,x)).2.1):WW ρ 17 uG iW (c,s,sub,q,at_,x):=by
 simp only[iW,RR] at hg ⊢
 unfold uG
 obtain ⟨hc,hf,rfl,he,hs,hw,hv⟩:=hp
 have hF:=Db hf he
 have hI:=yz (sub:=sub) hF hv (by omega)
 have hb:=K3 hF.inv
 have hal:=De hF
 have hcb:=dh hc
 have hkn:=hF.inv.known
 have hcw:=sQ hF.cw
 simp only[ag,bV,aR] at hg
 simp (disch:=first|omega|assumption|(constructor<;>first|assumption|omega)|simp only[LN];omega) only[↓SB,S1,↓bF,hc,hf,↓dt (a_seq:=s.want)]
 refine SUB.v3 (L q) (L s.ahead) (L s.kept) ?_ ?_
 ·simp (disch:=first|omega|assumption|(constructor<;>first|assumption|omega)|simp only[LN];omega) only[↓SB,S1,↓bF]
 simp (disch:=first|omega|assumption|(constructor<;>first|assumption|omega)|simp only[LN];omega) only[↓SB,S1,↓bF,he,↓dt (a_seq:=s.want)]
 refine SUB.v1 (bb false) ?_ ?_
 ·simp (disch:=first|omega|assumption|(constructor<;>first|assumption|omega)|simp only[LN];omega) only[↓SB,S1,↓bF,he]
  refine SUB.v1 (bb true) ?_ ?_
  ·simp (disch:=first|omega|assumption|(constructor<;>first|assumption|omega)|simp only[LN];omega) only[↓SB,S1,↓bF]
   exact ⟨fun _=>by simp;omega,fun h=>absurd (show 1≤x.seq by omega) h⟩
  simp (disch:=first|omega|assumption|(constructor<;>first|assumption|omega)|simp only[LN];omega) only[↓SB,S1,↓bF,hv]
 simp (disch:=first|omega|assumption|(constructor<;>first|assumption|omega)|simp only[LN];omega) only[↓SB,S1,↓bF,↓dt (a_seq:=s.want)]
 refine SUB.v1 (I 0) ?_ ?_
 ·simp (disch:=first|omega|assumption|(constructor<;>first|assumption|omega)|simp only[LN];omega) only[↓SB,S1,↓bF]
 simp (disch:=first|omega|assumption|(constructor<;>first|assumption|omega)|simp only[LN];omega) only[↓SB,S1,↓bF,↓dt (a_seq:=s.want)]
 refine ⟨fun h=>absurd h (by omega),fun _=>?_⟩
 refine SUB.v1 (bb false) ?_ ?_
 ·simp (disch:=first|omega|assumption|(constructor<;>first|assumption|omega)|simp only[LN];omega) only[↓SB,S1,↓bF]
  exact ⟨fun h=>absurd h (by omega),fun _=>by simp;omega⟩
 simp (disch:=first|omega|assumption|(constructor<;>first|assumption|omega)|simp only[LN];omega) only[↓SB,S1,↓bF,↓dt (a_seq:=s.want)]
 refine ⟨fun _=>?_,fun h=>absurd hs h⟩
 have hp1:fX s.kept s.want c.keep=true∧val x.value=true∧s.want<1073741824:=⟨hF.inv.kept,hv,by omega⟩
 simp (disch:=first|omega|assumption|(constructor<;>first|assumption|omega)|simp only[LN];omega) only[↓SB,S1,↓bF,↓dt (a_seq:=s.want)]
 refine SUB.v1 (L (eI c sub (s,q,[]) x.value).2.1) ?_ ?_
 ·cases sub<;>simp (disch:=first|omega|assumption|(constructor<;>first|assumption|omega)|simp only[LN];omega) only[↓SB,S1,↓bF]<;>rfl
 have hp2:s.ahead.length≤1000∧0≤s.want+1∧s.want+1≤1073741824∧ ∀y∈s.ahead,s.want+1≤y.seq∧y.seq≤1073741824:=by
  refine ⟨by omega,by omega,by omega,fun y hy=>?_⟩
  have:=JU hF.ahd y hy
  omega
 have hxl:=hI.len
 simp (disch:=first|omega|assumption|(constructor<;>first|assumption|omega)|simp only[LN];omega) only[↓SB,S1,↓bF,↓dt (a_seq:=s.want)]
 refine aw.rule (α:=Nat) (fun i=>[I i,L (dD c sub (eI c sub (s,q,[]) x.value) ((bu s.ahead (s.want+1)).take i)).2.2,I (dD c sub (eI c sub (s,q,[]) x.value) ((bu s.ahead (s.want+1)).take i)).1.want,I (dD c sub (eI c sub (s,q,[]) x.value) ((bu s.ahead (s.want+1)).take i)).1.known,L (dD c sub (eI c sub (s,q,[]) x.value) ((bu s.ahead (s.want+1)).take i)).1.kept,L (dD c sub (eI c sub (s,q,[]) x.value) ((bu s.ahead (s.want+1)).take i)).2.1]) (fun i=>i≤(bu s.ahead (s.want+1)).length) (fun i=>(bu s.ahead (s.want+1)).length-i) 0 rfl (by omega) (fun _=>rfl) ?_
 intro i hi
 have hR:=Ul hI hi
 simp only[app]
 generalize hr:dD c sub (eI c sub (s,q,[]) x.value) ((bu s.ahead (s.want+1)).take i)=r at hR ⊢
 have hib:=K3 hR.inv
 have hrw:=hR.want
 have hro:=hR.on
 have hrk:=hR.inv.known
 simp (disch:=first|omega|assumption|(constructor<;>first|assumption|omega)|simp only[LN];omega) only[↓SB,S1,↓bF]
 refine ⟨fun h4=>?_,fun h4=>?_⟩
 ·obtain ⟨y,hy⟩:=am h4
  have hys:=Bn hI.seq hy
  have hst:=GP (c:=c) (sub:=sub) (r:=eI c sub (s,q,[]) x.value) hy
  rw[hr] at hst
  have hp3:fX r.1.kept r.1.want c.keep=true∧val y.value=true∧r.1.want<1073741824:=⟨hR.inv.kept,hys.2.1,by omega⟩
  simp (disch:=first|omega|assumption|(constructor<;>first|assumption|omega)|simp only[LN];omega) only[↓SB,S1,↓bF,ab hy,↓dt (a_seq:=r.1.want)]
  refine ⟨fun hsub=>⟨i+1,?_,by omega,by omega⟩,fun hsub=>⟨i+1,?_,by omega,by omega⟩⟩
  ·rw[hst];simp[eI,hsub,hR.epoch]
  ·rw[hst];simp[eI,hsub]
 ·have hE:ce c s sub q x.value=({ r.1 with ahead:=qY s.ahead (s.want+1) },r.2):=by
   rw[←hr,List.take_of_length_le (by omega)];rfl
  rw[hE,←hR.epoch]
theorem K4(l:List Item)(want:Int)(hp:l.length≤1000∧0≤want∧want≤1073741824∧ ∀x∈l,want≤x.seq∧x.seq≤1073741824)(hg:ag (gD (l,want)).2.1):WW ρ 2 sI gD (l,want):=by
 simp only[gD,RR] at hg ⊢
 unfold sI
 obtain ⟨h1,h2,h3,h4⟩:=hp
 have hst:uc l want=l:=D8 fun x hx=>(h4 x hx).1
 have hrl:(bu l want).length≤l.length:=by
  rw[bu,hst]
  have: ∀(l:List Item) (w:Int),(eg w l).length≤l.length:=by
   intro l
   induction l with
   | nil=>intro w;simp[eg]
   | cons x r ih =>
    intro w
    unfold eg
    split
    ·simp;exact ih _
    ·simp
  exact this l want
 have e1:bu l want=eg want l:=by rw[bu,hst]
 have e2:qY l want=l.drop (eg want l).length:=by rw[qY,hst,e1]
 simp (disch:=first|omega|assumption|(constructor<;>first|assumption|omega)|simp only[LN];omega) only[↓SB,S1,↓aE]
 refine aw.rule (α:=Nat) (fun i=>[I i]) (fun i=>i≤l.length) (fun i=>l.length-i) 0 rfl (by omega) (fun _=>rfl) ?_
 intro i hi
 simp only[app]
 simp (disch:=first|omega|assumption|(constructor<;>first|assumption|omega)|simp only[LN];omega) only[↓SB,S1,↓aE]
 refine ⟨fun h5=>?_,fun h5=>?_⟩
 ·obtain ⟨x,hx⟩:=am h5
  have hxs:=h4 x (List.mem_of_getElem? hx)
  simp (disch:=first|omega|assumption|(constructor<;>first|assumption|omega)|simp only[LN];omega) only[↓SB,S1,↓aE,ab hx]
  exact ⟨fun h=>absurd h (by omega),fun _=>⟨i+1,rfl,by omega,by omega⟩⟩
 clear h5 hi i
 refine aw.rule (α:=Nat) (fun j=>[I j]) (fun j=>j≤l.length∧eg want l=l.take j++eg (want+j) (l.drop j)) (fun j=>l.length-j) 0 rfl ⟨by omega,by simp⟩ (fun _=>rfl) ?_
 rintro j ⟨hj,hr⟩
 simp only[app]
 have htk:(l.take j).length=j:=by rw[List.length_take];omega
 have hdk:(l.drop j).length≤1000:=by simp;omega
 have htk2:(l.take j).length≤1000000:=by omega
 have hdk2:(l.drop j).length≤1000000:=by omega
 have fin:eg (want+j) (l.drop j)=[]→bu l want=l.take j∧qY l want=l.drop j:=by
  intro h
  rw[h,List.append_nil] at hr
  exact ⟨by rw[e1,hr],by rw[e2,hr,htk]⟩
 simp (disch:=first|omega|assumption|(constructor<;>first|assumption|omega)|simp only[LN];omega) only[↓SB,S1,↓aE]
 refine ⟨fun h5=>?_,fun h5=>?_⟩
 ·obtain ⟨x,hx⟩:=am h5
  have hxs:=h4 x (List.mem_of_getElem? hx)
  rw[az hx] at hr
  simp (disch:=first|omega|assumption|(constructor<;>first|assumption|omega)|simp only[LN];omega) only[↓SB,S1,↓aE,ab hx,Int.toNat_natCast]
  refine ⟨fun h6=>⟨j+1,rfl,⟨by omega,?_⟩,by omega⟩,fun h6=>?_⟩
  ·rw[hr,eg,if_pos (by omega),zx hx,show want+(j:Int)+1=want+((j+1:Nat):Int) by omega];simp
  ·obtain ⟨f1,f2⟩:=fin (by rw[az hx,eg,if_neg (by omega)])
   rw[f1,f2]
 ·obtain ⟨f1,f2⟩:=fin (by rw[aq h5];rfl)
  simp (disch:=first|omega|assumption|(constructor<;>first|assumption|omega)|simp only[LN];omega) only[↓SB,S1,↓aE,Int.toNat_natCast]
  rw[f1,f2]
theorem K5(l:List Item)(want:Int)(limit:Int)(value:Int)(hp:l.length≤1000∧0≤limit∧limit≤1000)(hg:ag (gH (l,want,limit,value)).2.1):WW ρ 4 sN gH (l,want,limit,value):=by
 simp only[gH,RR] at hg ⊢
 unfold sN
 obtain ⟨h1,h2,h3⟩:=hp
 generalize hE:qX l want limit value=q
 rw[yx] at hE
 simp (disch:=first|omega|assumption|(constructor<;>first|assumption|omega)|simp only[LN];omega) only[↓SB,S1,↓dt (a_seq:=want)]
 have hx:(max (((l++[(⟨want,value⟩:Item)]).length:Int)-limit) 0).toNat=l.length+1-limit.toNat:=by simp;omega
 rw[hx,hE]
theorem MU(l:List Event)(limit:Int)(x:Event)(hp:bh l limit=true∧ec x=true)(hg:ag (iZ (l,limit,x)).2.1):WW ρ 8 uJ iZ (l,limit,x):=by
 simp only[iZ,RR] at hg ⊢
 unfold uJ
 obtain ⟨h1,h2⟩:=hp
 have hpr:(l.length≤1000∧2≤limit∧limit≤32∧(x.kind=3∨x.kind=4))∨(bh l limit=true∧ec x=true):=.inr ⟨h1,h2⟩
 have hf:(wF l limit x).1=tq l limit x:=by
  unfold wF
  split
  ·rename_i hk
   have hs:df x=false:=by simp[df];omega
   rw[D5 h1 h2 hs]
  ·rfl
 simp (disch:=first|omega|assumption|(constructor<;>first|assumption|omega)|simp only[LN];omega) only[↓SB,S1,↓Am]
 rw[hf]
theorem FK(t:Int)(x:Topic)(on:List Item)(hp:on.length≤1000∧x.kids.length≤1000)(hg:ag (ft (t,x,on)).2.1):WW ρ 18 qD ft (t,x,on):=by
 simp only[ft,RR] at hg ⊢
 unfold qD
 obtain ⟨h1,h2⟩:=hp
 have hmul: ∀i,i≤on.length→(jQ t x (on.take i)).length≤1000000:=by
  intro i hi
  rw[yB]
  have a:(on.take i).length≤1000:=by simp;omega
  exact Nat.le_trans (Nat.mul_le_mul a h2) (by decide)
 refine aw.rule (α:=Nat) (fun i=>[I i,L (jQ t x (on.take i))]) (fun i=>i≤on.length) (fun i=>on.length-i) 0 rfl (by omega) (fun _=>rfl) ?_
 intro i hi
 simp only[app]
 simp (disch:=first|omega|assumption|(constructor<;>first|assumption|omega)|simp only[LN];omega) only[↓SB,S1]
 refine ⟨fun h4=>?_,fun h4=>?_⟩
 ·obtain ⟨y,hy⟩:=am h4
  have hs:=GQ (t:=t) (x:=x) hy
  have hm:=hmul i hi
  refine aw.rule (α:=Nat) (fun k=>[I k,L (jQ t x (on.take i)++(x.kids.take k).map (pA t x y))]) (fun k=>k≤x.kids.length) (fun k=>x.kids.length-k) 0 (by simp) (by omega) (fun _=>rfl) ?_
  intro k hk
  simp only[app]
  simp (disch:=first|omega|assumption|(constructor<;>first|assumption|omega)|simp only[LN];omega) only[↓SB,S1,ab hy]
  refine ⟨fun h5=>?_,fun h5=>?_⟩
  ·obtain ⟨z,hz⟩:=am h5
   have hlk:((x.kids.take k).map (pA t x y)).length≤1000:=by simp;omega
   simp (disch:=first|omega|assumption|(constructor<;>first|assumption|omega)|simp only[LN];omega) only[↓SB,S1,ab hz,↓sW]
   exact ⟨k+1,by rw[zx hz];simp[pA,lL],by omega,by omega⟩
  ·have hke:k=x.kids.length:=by omega
   subst hke
   exact ⟨i+1,by rw[hs];simp,by omega,by omega⟩
 ·have:i=on.length:=by omega
  subst this
  simp
end Go.Xt
end
section
set_option linter.unusedSimpArgs false
set_option linter.unusedVariables false
set_option maxRecDepth 100000
namespace Go.Xt
set_option linter.defProp false
set_option maxHeartbeats 4000000
theorem Df{c:Config}{t self:Int}{x:Topic}{v:Int}(h: ¬(ak self x).2=0):au c t self x v=(fF,[],(ak self x).2):=by
 unfold au;rw[if_pos h]
theorem Av{c:Config}{t self:Int}{x:Topic}{v:Int}(h:(ak self x).2=0)(h2:1073741823≤(ak self x).1.stream.want):au c t self x v=(fF,[],11):=by
 unfold au;rw[if_neg (by simpa using h),if_pos h2]
theorem GS{c:Config}{t self:Int}{x:Topic}{v:Int}(h:(ak self x).2=0)(h2: ¬1073741823≤(ak self x).1.stream.want) :
  au c t self x v=({ (ak self x).1 with stream:=(ce c (ak self x).1.stream (ak self x).1.sub (ak self x).1.queue v).1,queue:=(ce c (ak self x).1.stream (ak self x).1.sub (ak self x).1.queue v).2.1 },jQ t { (ak self x).1 with stream:=(ce c (ak self x).1.stream (ak self x).1.sub (ak self x).1.queue v).1,queue:=(ce c (ak self x).1.stream (ak self x).1.sub (ak self x).1.queue v).2.1 } (ce c (ak self x).1.stream (ak self x).1.sub (ak self x).1.queue v).2.2,0):=by
 unfold au;rw[if_neg (by simpa using h),if_neg h2]
theorem K6{c:Config}{s:Stream}{sub:Bool}{q:List Event}{v:Int}(h:FOk c s q)(hv:val v=true)(hw:s.want<1073741824):(ce c s sub q v).2.2.length≤17:=by
 have h1:=x3 (sub:=sub) h hv hw
 have h2:=(yz (sub:=sub) h hv hw).len
 have h3:=De h
 rw[h1.2.1,List.length_cons];omega
def aO:=And.intro @cn (And.intro @EZ (And.intro @pO (And.intro @LL (@LM))))
theorem FL(c:Config)(t:Int)(self:Int)(x:Topic)(value:Int)(hp:ua c t self x=0∧val value=true)(hg:ag (fp (c,t,self,x,value)).2.1):WW ρ 26 qB fp (c,t,self,x,value):=by
 simp only[fp,RR] at hg ⊢
 unfold qB
 obtain ⟨hp,hv⟩:=hp
 have hW:(if bx c=true then (if (jO c t self&&aM c t self x)=true then (0:Int) else 1) else 13)=0:=hp
 obtain ⟨h1,h2,h3⟩:=uP hp
 by_cases he:(ak self x).2=0
 ·have hB:=zC hp he
  by_cases hw:1073741823≤(ak self x).1.stream.want
  ·rw[Av he hw]
   simp (disch:=first|omega|assumption|(constructor<;>first|assumption|omega)|simp only[LN];omega) only[↓SB,S1,↓aO,hW,hv]
   refine SUB.v1 (bb false) ?_ ?_
   ·simp (disch:=first|omega|assumption|(constructor<;>first|assumption|omega)|simp only[LN];omega) only[↓SB,S1,↓aO,hW,hv]
   simp (disch:=first|omega|assumption|(constructor<;>first|assumption|omega)|simp only[LN];omega) only[↓SB,S1,↓aO]
   refine SUB.v1 (I 0) ?_ ?_
   ·simp (disch:=first|omega|assumption|(constructor<;>first|assumption|omega)|simp only[LN];omega) only[↓SB,S1,↓aO]
   simp (disch:=first|omega|assumption|(constructor<;>first|assumption|omega)|simp only[LN];omega) only[↓SB,S1,↓aO,he]
   refine SUB.v1 (bb true) ?_ ?_
   ·simp (disch:=first|omega|assumption|(constructor<;>first|assumption|omega)|simp only[LN];omega) only[↓SB,S1,↓aO,he]
    simp[hw]
   simp (disch:=first|omega|assumption|(constructor<;>first|assumption|omega)|simp only[LN];omega) only[↓SB,S1,↓aO]
   simp[fF,L]
  ·rw[GS he hw]
   have hon:=K6 (sub:=(ak self x).1.sub) hB.flow hv (by omega)
   have hkl:=yA hB.ok
   have hpf:bx c=true∧dK c (ak self x).1.stream (ak self x).1.queue=true∧(ak self x).1.root=(ak self x).1.stream.epoch∧ep (ak self x).1.root=true∧(ak self x).1.stream.want=(ak self x).1.stream.want∧(ak self x).1.stream.want<1073741823∧val value=true:=⟨h1,hB.flow.flow,hB.epoch.symm,hB.ep,rfl,by omega,hv⟩
   simp (disch:=first|omega|assumption|(constructor<;>first|assumption|omega)|simp only[LN];omega) only[↓SB,S1,↓aO,hW,hv]
   refine SUB.v1 (bb false) ?_ ?_
   ·simp (disch:=first|omega|assumption|(constructor<;>first|assumption|omega)|simp only[LN];omega) only[↓SB,S1,↓aO,hW,hv]
   simp (disch:=first|omega|assumption|(constructor<;>first|assumption|omega)|simp only[LN];omega) only[↓SB,S1,↓aO]
   refine SUB.v1 (I 0) ?_ ?_
   ·simp (disch:=first|omega|assumption|(constructor<;>first|assumption|omega)|simp only[LN];omega) only[↓SB,S1,↓aO]
   simp (disch:=first|omega|assumption|(constructor<;>first|assumption|omega)|simp only[LN];omega) only[↓SB,S1,↓aO,he]
   refine SUB.v1 (bb false) ?_ ?_
   ·simp (disch:=first|omega|assumption|(constructor<;>first|assumption|omega)|simp only[LN];omega) only[↓SB,S1,↓aO,he]
    simp[hw]
    try omega
   simp (disch:=first|omega|assumption|(constructor<;>first|assumption|omega)|simp only[LN];omega) only[↓SB,S1,↓aO,he]
 ·rw[Df he]
  simp (disch:=first|omega|assumption|(constructor<;>first|assumption|omega)|simp only[LN];omega) only[↓SB,S1,↓aO,hW,hv]
  refine SUB.v1 (bb false) ?_ ?_
  ·simp (disch:=first|omega|assumption|(constructor<;>first|assumption|omega)|simp only[LN];omega) only[↓SB,S1,↓aO,hW,hv]
  simp (disch:=first|omega|assumption|(constructor<;>first|assumption|omega)|simp only[LN];omega) only[↓SB,S1,↓aO]
  refine SUB.v1 (I 0) ?_ ?_
  ·simp (disch:=first|omega|assumption|(constructor<;>first|assumption|omega)|simp only[LN];omega) only[↓SB,S1,↓aO]
  simp (disch:=first|omega|assumption|(constructor<;>first|assumption|omega)|simp only[LN];omega) only[↓SB,S1,↓aO,he]
  refine SUB.v1 (bb false) ?_ ?_
  ·simp (disch:=first|omega|assumption|(constructor<;>first|assumption|omega)|simp only[LN];omega) only[↓SB,S1,↓aO,he]
  simp (disch:=first|omega|assumption|(constructor<;>first|assumption|omega)|simp only[LN];omega) only[↓SB,S1,↓aO,he]
  simp[fF,L]
theorem FM(c:Config)(self:Int)(n:Node)(t:Int)(hp:aA n=false)(hg:ag (fq (c,self,n,t)).2.1):WW ρ 18 qC fq (c,self,n,t):=by
 simp only[fq,RR] at hg ⊢
 unfold qC
 generalize hE:bt c self n t=q
 unfold bt at hE
 simp (disch:=first|omega|assumption|(constructor<;>first|assumption|omega)|simp only[LN];omega) only[↓SB,S1,↓lv]
 by_cases h:ax c self n=0
 ·rw[if_pos h] at hE
  obtain ⟨hc,hs,hu,H⟩:=ca h
  have hcb:=dh hc
  simp (disch:=first|omega|assumption|(constructor<;>first|assumption|omega)|simp only[LN];omega) only[↓SB,S1,↓lv,h]
  refine ⟨fun h1=>?_,fun h1=>⟨fun h2=>?_,fun h2=>?_⟩⟩
  ·rw[if_neg (by intro h3;have:=aZ h3;omega)] at hE;rw[←hE]
  ·rw[if_neg (by intro h3;have:=aZ h3;omega)] at hE;rw[←hE]
  ·rw[if_pos (by simp[rng];omega)] at hE;rw[←hE]
 ·rw[if_neg h] at hE
  simp (disch:=first|omega|assumption|(constructor<;>first|assumption|omega)|simp only[LN];omega) only[↓SB,S1,↓lv,h]
  rw[hE]
theorem K7(c:Config)(self:Int)(n:Node)(t:Int)(hp:aA n=false)(hg:ag (gF (c,self,n,t)).2.1):WW ρ 18 sK gF (c,self,n,t):=by
 simp only[gF,RR] at hg ⊢
 unfold sK
 generalize hE:aH c self n t=q
 unfold aH at hE
 simp (disch:=first|omega|assumption|(constructor<;>first|assumption|omega)|simp only[LN];omega) only[↓SB,S1,↓mM]
 by_cases h:bt c self n t=0
 ·rw[if_pos h] at hE
  obtain ⟨h1,h2⟩:=mz h
  obtain ⟨k,x,rfl,A⟩:=lQ h1 h2
  have hlt:=A.lt
  rw[A.at_] at hE
  simp (disch:=first|omega|assumption|(constructor<;>first|assumption|omega)|simp only[LN];omega) only[↓SB,S1,↓mM,h,ab A.get]
  refine ⟨fun h3=>?_,fun h3=>?_⟩
  ·rw[if_neg (by rw[h3];simp)] at hE;rw[←hE]
  ·rw[if_pos h3] at hE;rw[←hE]
 ·rw[if_neg h] at hE
  simp (disch:=first|omega|assumption|(constructor<;>first|assumption|omega)|simp only[LN];omega) only[↓SB,S1,↓mM,h]
  rw[hE]
def fP:=And.intro @pw (@mM)
theorem Dg(c:Config)(self:Int)(n:Node)(t:Int)(hp:aA n=false)(hg:ag (dg (c,self,n,t)).2.1):WW ρ 18 oO dg (c,self,n,t):=by
 simp only[dg,RR] at hg ⊢
 unfold oO
 generalize hE:dl c self n t=q
 unfold dl at hE
 simp (disch:=first|omega|assumption|(constructor<;>first|assumption|omega)|simp only[LN];omega) only[↓SB,S1,↓fP]
 by_cases h:bt c self n t=0
 ·rw[if_pos h] at hE
  obtain ⟨h1,h2⟩:=mz h
  obtain ⟨k,x,rfl,A⟩:=lQ h1 h2
  have hlt:=A.lt
  rw[A.at_] at hE
  refine SUB.v1 (bb x.made) ?_ ?_
  ·simp (disch:=first|omega|assumption|(constructor<;>first|assumption|omega)|simp only[LN];omega) only[↓SB,S1,↓fP,h,ab A.get]
  simp (disch:=first|omega|assumption|(constructor<;>first|assumption|omega)|simp only[LN];omega) only[↓SB,S1,↓fP,h]
  refine ⟨fun h3=>?_,fun h3=>?_⟩
  ·rw[if_pos h3] at hE;rw[←hE];simp[ba,L]
  ·rw[if_neg (by rw[h3];simp)] at hE
   rw[←hE]
   simp (disch:=first|omega|assumption|(constructor<;>first|assumption|omega)|simp only[LN];omega) only[↓SB,S1,↓fP,↓bk A.get (j:=0) (v:=bb true) (y:={ x with made:=true }) rfl]
   simp[bp]
 ·rw[if_neg h] at hE
  refine SUB.v1 (bb false) ?_ ?_
  ·simp (disch:=first|omega|assumption|(constructor<;>first|assumption|omega)|simp only[LN];omega) only[↓SB,S1,↓fP,h]
  simp (disch:=first|omega|assumption|(constructor<;>first|assumption|omega)|simp only[LN];omega) only[↓SB,S1,↓fP,h]
  rw[←hE];simp[ba,L]
def gL:=And.intro @pw (@nL)
theorem K8(c:Config)(self:Int)(n:Node)(t:Int)(sub:Bool)(why:Int)(hp:aA n=false∧why≠0)(hg:ag (gG (c,self,n,t,sub,why)).2.1):WW ρ 20 sL gG (c,self,n,t,sub,why):=by
 simp only[gG,RR] at hg ⊢
 unfold sL
 obtain ⟨hp,hy⟩:=hp
 generalize hE:cN c self n t sub why=q
 unfold cN at hE
 simp (disch:=first|omega|assumption|(constructor<;>first|assumption|omega)|simp only[LN];omega) only[↓SB,S1,↓gL]
 by_cases h:aH c self n t=0
 ·rw[if_pos h] at hE
  obtain ⟨h1,h2,h3⟩:=zD h
  obtain ⟨k,x,rfl,A⟩:=lQ h1 h2
  have hlt:=A.lt
  rw[A.at_] at hE
  refine SUB.v1 (bb (x.sub == sub)) ?_ ?_
  ·simp (disch:=first|omega|assumption|(constructor<;>first|assumption|omega)|simp only[LN];omega) only[↓SB,S1,↓gL,h,ab A.get]
  have hg2:(n.topics.set k { x with sub:=sub })[k]? =some { x with sub:=sub }:=by simp[hlt]
  simp (disch:=first|omega|assumption|(constructor<;>first|assumption|omega)|simp only[LN];omega) only[↓SB,S1,↓gL,h]
  by_cases h4:x.sub=sub
  ·rw[if_pos h4] at hE
   simp (disch:=first|omega|assumption|(constructor<;>first|assumption|omega)|simp only[LN];omega) only[↓SB,S1,↓gL,h4,beq_self_eq_true]
   rw[←hE]
   refine ⟨fun h0=>?_,fun h0=>?_⟩ <;>first | exact absurd h0 hy | simp[ba,L]
  ·rw[if_neg h4] at hE
   rw[←hE]
   have h5:(x.sub == sub)=false:=by simpa using h4
   have hsl:(n.topics.set k { x with sub:=sub }).length=n.topics.length:=by simp
   simp (disch:=first|omega|assumption|(constructor<;>first|assumption|omega)|simp only[LN];omega) only[↓SB,S1,↓gL,h5,↓bk A.get (j:=1) (v:=bb sub) (y:={ x with sub:=sub }) rfl,↓bk hg2 (j:=15) (v:=.list []) (y:={ x with sub:=sub,queue:=[] }) rfl]
   simp[bp]
 ·rw[if_neg h] at hE
  refine SUB.v1 (bb false) ?_ ?_
  ·simp (disch:=first|omega|assumption|(constructor<;>first|assumption|omega)|simp only[LN];omega) only[↓SB,S1,↓gL,h]
  simp (disch:=first|omega|assumption|(constructor<;>first|assumption|omega)|simp only[LN];omega) only[↓SB,S1,↓gL,h]
  rw[←hE];simp[ba,L]
theorem yC(c:Config)(self:Int)(n:Node)(t:Int)(hp:aA n=false)(hg:ag (bJ (c,self,n,t)).2.1):WW ρ 18 lC bJ (c,self,n,t):=by
 simp only[bJ,RR] at hg ⊢
 unfold lC
 have hp2:aA n=false∧(8:Int)≠0:=⟨hp,by decide⟩
 simp (disch:=first|omega|assumption|(constructor<;>first|assumption|omega)|simp only[LN];omega) only[↓SB,S1,↓yi]
theorem vA(c:Config)(self:Int)(n:Node)(t:Int)(hp:aA n=false)(hg:ag (bX (c,self,n,t)).2.1):WW ρ 18 jH bX (c,self,n,t):=by
 simp only[bX,RR] at hg ⊢
 unfold jH
 have hp2:aA n=false∧(7:Int)≠0:=⟨hp,by decide⟩
 simp (disch:=first|omega|assumption|(constructor<;>first|assumption|omega)|simp only[LN];omega) only[↓SB,S1,↓yi]
def lI:=And.intro @yh (And.intro @pw (@nL))
theorem K9(c:Config)(self:Int)(n:Node)(t:Int)(hp:aA n=false)(hg:ag (dB (c,self,n,t)).2.1):WW ρ 18 sM dB (c,self,n,t):=by
 simp only[dB,RR] at hg ⊢
 unfold sM
 generalize hE:dL c self n t=q
 unfold dL at hE
 simp (disch:=first|omega|assumption|(constructor<;>first|assumption|omega)|simp only[LN];omega) only[↓SB,S1,↓lI]
 by_cases h:aH c self n t=0
 ·rw[if_pos h] at hE
  obtain ⟨h1,h2,h3⟩:=zD h
  obtain ⟨k,x,rfl,A⟩:=lQ h1 h2
  have hlt:=A.lt
  have hql:=kD (sX A.ok)
  rw[A.at_] at hE
  simp (disch:=first|omega|assumption|(constructor<;>first|assumption|omega)|simp only[LN];omega) only[↓SB,S1,↓lI,h,ab A.get]
  cases hq:x.queue with
  | nil =>
   rw[hq] at hE
   rw[←hE]
   simp (disch:=first|omega|assumption|(constructor<;>first|assumption|omega)|simp only[LN];omega) only[↓SB,S1,↓lI]
   simp[ba,cx,L]
  | cons y r =>
   rw[hq] at hE
   rw[←hE]
   simp only[List.tail_cons,List.headD_cons]
   simp (disch:=first|omega|assumption|(constructor<;>first|assumption|omega)|simp only[LN];omega) only[↓SB,S1,↓lI,↓bk A.get (j:=15) (v:=L r) (y:={ x with queue:=r }) rfl]
   simp[bp]
 ·rw[if_neg h] at hE
  simp (disch:=first|omega|assumption|(constructor<;>first|assumption|omega)|simp only[LN];omega) only[↓SB,S1,↓lI,h]
  rw[←hE];simp[ba,cx,L]
theorem RX{c:Config}{self:Int}{n:Node}{t:Int}(h1:ax c self n=0)(h2:rng t 0 (c.topics-1)=true):bB n.peers=true∧rng self 0 (n.peers.length-1)=true∧isT t=true:=by
 obtain ⟨hc,hs,hu,H⟩:=ca h1
 have hb:=dh hc
 have hr:=aZ h2
 refine ⟨H.peers,by rw[H.pl];exact hs,jy.2 (by omega)⟩
theorem yD{c:Config}{self:Int}{n:Node}{k:Nat}{x:Topic}(h1:ax c self n=0)(h2:rng (k:Int) 0 (c.topics-1)=true)(A:AtOk c self n k x):ua c k self x=0:=by
 obtain ⟨hc,hs,hu,H⟩:=ca h1
 exact T9 hc (by simp[jO,h2,hs]) A.ok
theorem yE{n:Node}{l:List Msg}(h:n.peers.length≤12)(hl:l.length≤1000)(hm: ∀m∈l,m.path=[]∧m.todo=[]):l.length≤1000∧n.peers.length≤12∧ ∀m∈l,m.path.length≤30∧m.todo.length≤30 :=
 ⟨hl,h,fun m hm'=>by have:=hm m hm';rw[this.1,this.2];simp⟩
theorem Te{t:Int}{x:Topic}{on:List Item}(h1:on.length≤17)(h2:x.kids.length≤4):(jQ t x on).length≤1000∧ ∀m∈jQ t x on,m.path=[]∧m.todo=[]:=by
 refine ⟨?_,fun m hm=>⟨(vu hm).1,(vu hm).2.1⟩⟩
 rw[yB]
 exact Nat.le_trans (Nat.mul_le_mul h1 h2) (by decide)
theorem sZ{c:Config}{t self:Int}{x:Topic}{v:Int}(hw:ua c t self x=0)(hv:val v=true):(au c t self x v).2.1.length≤1000∧ ∀m∈(au c t self x v).2.1,m.path=[]∧m.todo=[]:=by
 by_cases h0:(au c t self x v).2.2=0
 ·have A:=vt hw hv h0
  rw[A.eq]
  exact Te (K6 A.B.flow hv (by have:=A.want;omega)) (yA A.ok)
 ·unfold au at h0 ⊢
  split
  ·simp
  ·split
   ·simp
   ·rename_i a b;rw[if_neg a,if_neg b] at h0;exact absurd rfl h0
theorem yF{self:Int}{n m:Node}(hi:n.inc=m.inc)(hp:n.peers=m.peers): ∀l,dz self n l=dz self m l
 | []=>rfl
 | x::r=>by
  have h1:ub self n x=ub self m x:=by simp[ub,hi,hp]
  have h2:oY n x.to=oY m x.to:=by simp[oY,hp]
  simp only[dz,h1,h2,yF hi hp r]
theorem Aw{self:Int}{n m:Node}(hi:n.inc=m.inc)(hp:n.peers=m.peers)(l:List Msg):kI self n l=kI self m l:=by
 unfold kI;rw[yF hi hp]
def dy:=And.intro @pw (And.intro @An (And.intro @nL (And.intro @cn (And.intro @LO (And.intro @F1 (@Aj))))))
theorem B5(c:Config)(self:Int)(n:Node)(t:Int)(value:Int)(hp:aA n=false)(hg:ag (cL (c,self,n,t,value)).2.1):WW ρ 19 ns cL (c,self,n,t,value):=by
 simp only[cL,RR] at hg ⊢
 unfold ns
 simp only[ag,bV,aR] at hg
 generalize hE:bf c self n t value=q
 unfold bf at hE
 have hhb:=oQ hp
 by_cases h:aH c self n t=0
 ·rw[if_pos h] at hE
  obtain ⟨h1,h2,h3⟩:=zD h
  obtain ⟨k,x,rfl,A⟩:=lQ h1 h2
  have hlt:=A.lt
  have hown:=RX h1 h2
  have htw:=yD h1 h2 A
  obtain ⟨hc,hs,hu,H⟩:=ca h1
  have hpb:=aZ H.pubs
  simp (disch:=first|omega|assumption|(constructor<;>first|assumption|omega)|simp only[LN];omega) only[↓SB,S1,↓dy,h]
  cases hv:val value
  ·rw[hv] at hE
   simp (disch:=first|omega|assumption|(constructor<;>first|assumption|omega)|simp only[LN];omega) only[↓SB,S1,↓dy,hv]
   rw[←hE];simp[ba,L]
  rw[if_pos hv] at hE
  unfold fG at hE
  simp (disch:=first|omega|assumption|(constructor<;>first|assumption|omega)|simp only[LN];omega) only[↓SB,S1,↓dy,hv]
  refine ⟨fun h4=>?_,fun h4=>?_⟩
  ·rw[if_pos h4] at hE;rw[←hE];simp[ba,L]
  rw[if_neg h4] at hE
  unfold GA at hE
  simp only[A.at_] at hE
  have hao:=sZ (v:=value) htw hv
  have hta:ua c k self x=0∧val value=true:=⟨htw,hv⟩
  refine ⟨fun h5=>?_,fun h5=>?_⟩
  ·rw[if_pos h5] at hE
   simp (disch:=first|omega|assumption|(constructor<;>first|assumption|omega)|simp only[LN];omega) only[↓SB,S1,↓dy,ab A.get]
   have hmp:=yE (n:=bp { n with pubs:=n.pubs+1 } k (au c k self x value).1) (l:=(au c k self x value).2.1) hhb.1 hao.1 hao.2
   rw[Pt A.get]
   have hmc:=Aw (self:=self) (n:=bp { n with pubs:=n.pubs+1 } k (au c k self x value).1) (m:={ n with pubs:=n.pubs+1 }) rfl rfl (au c k self x value).2.1
   refine ⟨fun h6=>?_,fun h6=>?_⟩
   ·rw[if_neg h6] at hE;rw[←hE];simp[ba,L]
   ·rw[if_pos h6] at hE
    rw[←hE]
    simp only[bp,Int.toNat_natCast] at hmp hmc ⊢
    simp (disch:=first|omega|assumption|(constructor<;>first|assumption|omega)|simp only[LN];omega) only[↓SB,S1,↓dy]
    rw[hmc]
  ·rw[if_neg (by rw[h5];simp)] at hE
   rw[←hE]
   have hmp:=yE (n:={ n with pubs:=n.pubs+1 }) (l:=[Lx self n k value]) hhb.1 (by simp) (by intro m hm;rw[List.mem_singleton] at hm;subst hm;exact ⟨rfl,rfl⟩)
   simp only[Lx,lL] at hmp ⊢
   simp (disch:=first|omega|assumption|(constructor<;>first|assumption|omega)|simp only[LN];omega) only[↓SB,S1,↓dy,↓sW]
 ·rw[if_neg h] at hE
  simp (disch:=first|omega|assumption|(constructor<;>first|assumption|omega)|simp only[LN];omega) only[↓SB,S1,↓dy,h]
  rw[←hE];simp[ba,L]
theorem OJ{c:Config}{self:Int}{n:Node}{x:Msg}:(iv c self n x).2.length≤1∧ ∀m∈(iv c self n x).2,m.path.length≤x.path.length+1∧m.todo.length≤(cO n (x.path++[self]) x.todo (qW self n x.topic)).length:=by
 unfold iv lP goN
 split
 ·split
  ·simp
  ·simp[lL];split<;>simp
 ·split
  ·unfold lP;split
   ·simp
   ·simp[lL]
  ·simp
theorem GT(n:Node)(pt:List Int): ∀(l td:List Int),(cO n pt td l).length≤td.length+l.length
 | [],td=>by simp[cO]
 | k::r,td=>by
  rw[cO]
  refine Nat.le_trans (GT n pt r _) ?_
  split<;>simp<;>omega
theorem RY(self:Int)(n:Node)(t:Int):(qW self n t).length≤(bi n t).kids.length+2:=by
 unfold qW
 simp only[List.length_append,List.length_map,List.length_singleton]
 split<;>simp
theorem Pu{c:Config}{self:Int}{n:Node}{t v:Int}(h:(aN c self n t v).2.2.2=0):ax c self n=0∧rng t 0 (c.topics-1)=true∧val v=true∧n.asks<40:=by
 unfold aN at h
 split at h
 ·rename_i h1
  split at h
  ·rename_i h2
   rw[Bool.and_eq_true] at h2
   split at h
   ·rename_i h3;exact ⟨h1,h2.1,h2.2,h3⟩
   ·simp at h
  ·simp at h
 ·rename_i h1;exact absurd h h1
theorem x4{c:Config}{self:Int}{n:Node}{t v:Int}(h:(aN c self n t v).2.2.2=0) :
  (aN c self n t v).2.1.length≤1000∧(aN c self n t v).1.peers.length≤12∧ ∀m∈(aN c self n t v).2.1,m.path.length≤30∧m.todo.length≤30:=by
 obtain ⟨h1,h2,h3,h4⟩:=Pu h
 obtain ⟨b1,b2,b3,b4,b5,b6⟩:=GM h1 h2 h3 h4 rfl
 obtain ⟨hc,hs,hu,H⟩:=ca b4
 have hcb:=dh hc
 have hpl:=H.pl
 have e:(aN c self n t v).2.1=(iv c self { n with asks:=n.asks+1,calls:=n.calls++[⟨n.asks+1,t,0⟩],marks:=jB n.marks self n.inc (n.asks+1) } { lL with topic:=t,node:=self,inc:=n.inc,count:=n.asks+1,value:=v }).2:=by
  unfold aN;rw[if_pos h1,if_pos (by rw[h2,h3];rfl),if_pos h4]
 have hv:=OJ (c:=c) (self:=self) (n:={ n with asks:=n.asks+1,calls:=n.calls++[⟨n.asks+1,t,0⟩],marks:=jB n.marks self n.inc (n.asks+1) }) (x:={ lL with topic:=t,node:=self,inc:=n.inc,count:=n.asks+1,value:=v })
 obtain ⟨k,x,rfl,A⟩:=lQ h1 h2
 have hk:=yA A.ok
 rw[e]
 refine ⟨by omega,by omega,fun m hm=>?_⟩
 have hm2:=hv.2 m hm
 have h5:=GT { n with asks:=n.asks+1,calls:=n.calls++[⟨n.asks+1,k,0⟩],marks:=jB n.marks self n.inc (n.asks+1) } (([]:List Int)++[self]) (qW self { n with asks:=n.asks+1,calls:=n.calls++[⟨n.asks+1,k,0⟩],marks:=jB n.marks self n.inc (n.asks+1) } k) []
 have h6:=RY self { n with asks:=n.asks+1,calls:=n.calls++[⟨n.asks+1,k,0⟩],marks:=jB n.marks self n.inc (n.asks+1) } k
 have h7:bi { n with asks:=n.asks+1,calls:=n.calls++[⟨n.asks+1,k,0⟩],marks:=jB n.marks self n.inc (n.asks+1) } k=x:=A.at_
 rw[h7] at h6
 simp only[lL,List.length_nil] at hm2 h5 h6 ⊢
 omega
def tf:=And.intro @An (And.intro @nL (@IP))
theorem B6(c:Config)(self:Int)(n:Node)(t:Int)(value:Int)(hp:aA n=false)(hg:ag (dw (c,self,n,t,value)).2.1):WW ρ 19 nu dw (c,self,n,t,value):=by
 simp only[dw,RR] at hg ⊢
 unfold nu
 simp only[ag,bV,aR] at hg
 generalize hE:cy c self n t value=q
 unfold cy at hE
 have hhb:=oQ hp
 simp (disch:=first|omega|assumption|(constructor<;>first|assumption|omega)|simp only[LN];omega) only[↓SB,S1,↓tf]
 by_cases h:aH c self n t=0
 ·rw[if_pos h] at hE
  refine ⟨fun h1=>absurd h h1,fun _=>⟨fun h2=>?_,fun h2=>?_⟩⟩
  ·rw[if_neg h2] at hE;rw[←hE];simp[ba,L]
  ·rw[if_pos h2] at hE
   have hmb:=x4 h2
   rw[←hE]
   simp (disch:=first|omega|assumption|(constructor<;>first|assumption|omega)|simp only[LN];omega) only[↓SB,S1,↓tf]
 ·rw[if_neg h] at hE
  exact ⟨fun _=>by rw[←hE];simp[ba,L],fun h1=>absurd h1 h⟩
end Go.Xt
end
section
set_option linter.unusedSimpArgs false
set_option linter.unusedVariables false
set_option maxRecDepth 100000
namespace Go.Xt
set_option linter.defProp false
set_option maxHeartbeats 4000000
def wC:=dl t8 3 wN0 1
def wS:=cN t8 3 wC.1 1 true 8
def wP:=bf t8 3 wS.1 1 9
def wQ:=dL t8 3 wP.1 1
def wR2:=dL t8 3 wQ.1 1
def wU:=cN t8 3 wP.1 2 true 8
theorem wc0:aA wN0=false∧aA wC.1=false∧aA wS.1=false∧aA wP.1=false∧aA wQ.1=false:=by decide +kernel
theorem wc1:wC.2=0∧wS.2=0∧wP.2.2.2=0∧wP.2.1=[]∧wP.2.2.1=1∧wQ.2.2=0∧wQ.2.1=⟨1,3,1,0,9,0⟩∧wR2.2.2=10∧wU.2=7:=by decide +kernel
def FN:=And.intro @rN (And.intro @lx (And.intro @gS (And.intro @lw (@eD))))
theorem FO  :WW ρ 0 qE jS ():=by
 simp only[jS,RR]
 unfold qE
 have e8:(8:Int).toNat=8:=rfl
 have e4:(4:Int).toNat=4:=rfl
 rw[rN]
 have cC: ∀k,CALL ρ 26 [I 8,I 4,I 2,I 8,I 8,I 8,I 16,I 3,bb true,I 1,L wN0.peers,L wN0.topics,L (α:=Call) [],I 0,I 0,L wN0.marks,L (α:=Mark2) [],I 1] 10 k=k (bb wC.1.up) (I wC.1.inc) (L wC.1.peers) (L wC.1.topics) (L wC.1.calls) (I wC.1.pubs) (I wC.1.asks) (L wC.1.marks) (L wC.1.taken) (I wC.2) :=
  fun k=>CE dg 26 10 rfl (fun _=>rfl) (t8,3,wN0,1) k wc0.1 rfl
 have cS: ∀k,CALL ρ 27 [I 8,I 4,I 2,I 8,I 8,I 8,I 16,I 3,bb wC.1.up,I wC.1.inc,L wC.1.peers,L wC.1.topics,L wC.1.calls,I wC.1.pubs,I wC.1.asks,L wC.1.marks,L wC.1.taken,I 1] 10 k=k (bb wS.1.up) (I wS.1.inc) (L wS.1.peers) (L wS.1.topics) (L wS.1.calls) (I wS.1.pubs) (I wS.1.asks) (L wS.1.marks) (L wS.1.taken) (I wS.2) :=
  fun k=>CE bJ 27 10 rfl (fun _=>rfl) (t8,3,wC.1,1) k wc0.2.1 rfl
 have cP: ∀k,CALL ρ 24 [I 8,I 4,I 2,I 8,I 8,I 8,I 16,I 3,bb wS.1.up,I wS.1.inc,L wS.1.peers,L wS.1.topics,L wS.1.calls,I wS.1.pubs,I wS.1.asks,L wS.1.marks,L wS.1.taken,I 1,I 9] 12 k=k (bb wP.1.up) (I wP.1.inc) (L wP.1.peers) (L wP.1.topics) (L wP.1.calls) (I wP.1.pubs) (I wP.1.asks) (L wP.1.marks) (L wP.1.taken) (L wP.2.1) (I wP.2.2.1) (I wP.2.2.2) :=
  fun k=>CE cL 24 12 rfl (fun _=>rfl) (t8,3,wS.1,1,9) k wc0.2.2.1 rfl
 have cQ: ∀k,CALL ρ 19 [I 8,I 4,I 2,I 8,I 8,I 8,I 16,I 3,bb wP.1.up,I wP.1.inc,L wP.1.peers,L wP.1.topics,L wP.1.calls,I wP.1.pubs,I wP.1.asks,L wP.1.marks,L wP.1.taken,I 1] 16 k=k (bb wQ.1.up) (I wQ.1.inc) (L wQ.1.peers) (L wQ.1.topics) (L wQ.1.calls) (I wQ.1.pubs) (I wQ.1.asks) (L wQ.1.marks) (L wQ.1.taken) (I wQ.2.1.kind) (I wQ.2.1.epoch) (I wQ.2.1.seq) (I wQ.2.1.last) (I wQ.2.1.value) (I wQ.2.1.count) (I wQ.2.2) :=
  fun k=>CE dB 19 16 rfl (fun _=>rfl) (t8,3,wP.1,1) k wc0.2.2.2.1 rfl
 have cR: ∀k,CALL ρ 19 [I 8,I 4,I 2,I 8,I 8,I 8,I 16,I 3,bb wQ.1.up,I wQ.1.inc,L wQ.1.peers,L wQ.1.topics,L wQ.1.calls,I wQ.1.pubs,I wQ.1.asks,L wQ.1.marks,L wQ.1.taken,I 1] 16 k=k (bb wR2.1.up) (I wR2.1.inc) (L wR2.1.peers) (L wR2.1.topics) (L wR2.1.calls) (I wR2.1.pubs) (I wR2.1.asks) (L wR2.1.marks) (L wR2.1.taken) (I wR2.2.1.kind) (I wR2.2.1.epoch) (I wR2.2.1.seq) (I wR2.2.1.last) (I wR2.2.1.value) (I wR2.2.1.count) (I wR2.2.2) :=
  fun k=>CE dB 19 16 rfl (fun _=>rfl) (t8,3,wQ.1,1) k wc0.2.2.2.2 rfl
 have cU: ∀k,CALL ρ 27 [I 8,I 4,I 2,I 8,I 8,I 8,I 16,I 3,bb wP.1.up,I wP.1.inc,L wP.1.peers,L wP.1.topics,L wP.1.calls,I wP.1.pubs,I wP.1.asks,L wP.1.marks,L wP.1.taken,I 2] 10 k=k (bb wU.1.up) (I wU.1.inc) (L wU.1.peers) (L wU.1.topics) (L wU.1.calls) (I wU.1.pubs) (I wU.1.asks) (L wU.1.marks) (L wU.1.taken) (I wU.2) :=
  fun k=>CE bJ 27 10 rfl (fun _=>rfl) (t8,3,wP.1,2) k wc0.2.2.2.1 rfl
 have f1:(List.replicate 8 (⟨0,0⟩:Peer))=wN0.peers:=rfl
 have f2:(List.replicate 4 fF)=wN0.topics:=rfl
 have f3:(List.replicate 8 (⟨0,0,0⟩:Mark))=wN0.marks:=rfl
 refine Or.inl ⟨[L wN0.peers,L wN0.topics,L wN0.marks,bb wC.1.up,I wC.1.inc,L wC.1.peers,L wC.1.topics,L wC.1.calls,I wC.1.pubs,I wC.1.asks,L wC.1.marks,L wC.1.taken,I wC.2,I wC.2,bb wC.1.up,I wC.1.inc,L wC.1.peers,L wC.1.topics,L wC.1.calls,I wC.1.pubs,I wC.1.asks,L wC.1.marks,L wC.1.taken,L wN0.peers,L wN0.topics,L wN0.marks],rfl,?_,?_⟩
 ·simp (disch:=omega) only[Ad,xV,Ae,e8,e4,f1,f2,f3,cC,and_self]
 simp only[app]
 simp only[cS,cP,cQ,cR,cU]
 obtain ⟨g1,g2,g3,g4,g5,g6,g7,g8,g9⟩:=wc1
 rw[g1,g2,g3,g4,g5,g6,g7,g8,g9]
 simp (disch:=first|omega|assumption|(constructor<;>first|assumption|omega)|simp only[LN];omega) only[↓SB,S1,↓FN]
 simp
end Go.Xt
end
section
set_option linter.unusedSimpArgs false
set_option linter.unusedVariables false
set_option maxRecDepth 100000
namespace Go.Xt
set_option linter.defProp false
set_option maxHeartbeats 4000000
def jY(n:Node)(k:Nat)(x:Topic)(i:Nat):Node:=bp n k { x with queue:=x.queue.drop i }
theorem MW{n:Node}{k:Nat}{x:Topic}(h:n.topics[k]? =some x):jY n k x 0=n:=by
 unfold jY;rw[List.drop_zero];exact OH h
theorem Pv{n:Node}{k:Nat}{x:Topic}{i:Nat}(h:k<n.topics.length):bi (jY n k x i) k={ x with queue:=x.queue.drop i }:=JW h
theorem MX{c:Config}{self:Int}{n:Node}{k:Nat}{x:Topic}{i:Nat}{y:Event}(h:ax c self n=0)(A:AtOk c self n k x)(hm:x.made=true)(hy:x.queue[i]? =some y):dL c self (jY n k x i) k=(jY n k x (i+1),y,0):=by
 have hi:=(List.getElem?_eq_some_iff.1 hy).1
 obtain ⟨h1,h2,h3,h4⟩:=K1 h A hm i (by omega)
 show dL c self (bp n k { x with queue:=x.queue.drop i }) k=_
 rw[rk h4 (x:=y) (r:=x.queue.drop (i+1)) (by show (bi (jY n k x i) k).queue=_;rw[Pv A.lt];exact az hy)]
 have e:bi (bp n k { x with queue:=x.queue.drop i }) k={ x with queue:=x.queue.drop i }:=JW A.lt
 rw[e,MN];rfl
theorem Pw{c:Config}{self:Int}{n:Node}{k:Nat}{x:Topic}(h:ax c self n=0)(A:AtOk c self n k x)(hm:x.made=true):dL c self (jY n k x x.queue.length) k=(ba,cx,10):=by
 obtain ⟨h1,h2,h3,h4⟩:=K1 h A hm x.queue.length (by omega)
 exact uR h4 (by show (bi (jY n k x x.queue.length) k).queue=_;rw[Pv A.lt];simp)
theorem Ka{n:Int}(h0:0≤n)(h1:n≤1000):u64 n=n:=by unfold u64;exact Int.emod_eq_of_lt h0 (by omega)
def cj:=And.intro @fv (And.intro @bD (And.intro @lx (And.intro @il (And.intro @yh (And.intro @jx (@nK))))))
theorem x5(c:Config)(self:Int)(n:Node)(t:Int)(hg:ag (cX (c,self,n,t)).2.1):WW ρ 18 kx cX (c,self,n,t):=by
 simp only[cX,RR] at hg ⊢
 unfold kx
 simp only[ag,bV,aR] at hg
 refine SUB.v1 (bb (aA n|| !decide (ax c self n=0))) ?_ ?_
 ·simp (disch:=first|omega|assumption|(constructor<;>first|assumption|omega)|simp only[LN];omega) only[↓SB,S1,↓cj]
  refine ⟨fun h=>?_,fun h=>?_⟩ <;>simp[h]
 by_cases hh0:(aA n|| !decide (ax c self n=0))=true
 ·simp (disch:=first|omega|assumption|(constructor<;>first|assumption|omega)|simp only[LN];omega) only[↓SB,S1,↓cj,hh0]
 have hh:(aA n|| !decide (ax c self n=0))=false:=by simpa using hh0
 simp only[Bool.or_eq_false_iff,Bool.not_eq_false',decide_eq_true_eq] at hh
 obtain ⟨hhv,hw⟩:=hh
 obtain ⟨hc,hs,hu,H⟩:=ca hw
 have hcb:=dh hc
 have huc:=Ka (n:=c.topics) (by omega) (by omega)
 have hk0:0≤u64 t % c.topics∧u64 t % c.topics<c.topics:=⟨Int.emod_nonneg _ (by omega),Int.emod_lt_of_pos _ (by omega)⟩
 simp (disch:=first|omega|assumption|(constructor<;>first|assumption|omega)|simp only[LN];omega) only[↓SB,S1,↓cj,hh0,huc]
 generalize u64 t % c.topics=T at hk0 ⊢
 have hrt:rng T 0 (c.topics-1)=true:=by simp[rng];omega
 obtain ⟨k,x,rfl,A⟩:=lQ hw hrt
 have hlt:=A.lt
 have hql:=kD (sX A.ok)
 simp (disch:=first|omega|assumption|(constructor<;>first|assumption|omega)|simp only[LN];omega) only[↓SB,S1,↓cj,ab A.get]
 refine ⟨fun hm=>?_,fun hm=>?_⟩
 ·rw[K0 (by rw[o4 hw hrt (by rw[A.at_];exact hm)];decide),o4 hw hrt (by rw[A.at_];exact hm)]
  simp
 refine aw.rule (α:=Nat) (fun i=>[L (x.queue.drop i),I i,bb (jY n k x i).up,I (jY n k x i).inc,L (jY n k x i).peers,L (jY n k x i).topics,L (jY n k x i).calls,I (jY n k x i).pubs,I (jY n k x i).asks,L (jY n k x i).marks,L (jY n k x i).taken]) (fun i=>i≤x.queue.length) (fun i=>x.queue.length-i) 0 (by rw[MW A.get];rfl) (by omega) (fun _=>rfl) ?_
 intro i hi
 simp only[app]
 obtain ⟨g1,g2,g3,g4⟩:=K1 hw A hm i hi
 have g5:aA (jY n k x i)=false:=rj g1
 have g6:(x.queue.drop i).length≤1000000:=by simp;omega
 simp (disch:=first|omega|assumption|(constructor<;>first|assumption|omega)|simp only[LN];omega) only[↓SB,S1,↓cj,ab A.get]
 refine ⟨fun h4=>?_,fun h4=>?_⟩
 ·obtain ⟨y,hy⟩:=am h4
  have hd:=az hy
  rw[MX hw A hm hy,hd]
  simp (disch:=first|omega|assumption|(constructor<;>first|assumption|omega)|simp only[LN];omega) only[↓SB,S1,↓cj]
  refine ⟨fun h=>absurd h (by simp),fun _=>⟨fun h=>absurd h (by simp),fun _=>⟨i+1,by simp,by omega,by omega⟩⟩⟩
 ·have hie:i=x.queue.length:=by omega
  subst hie
  rw[Pw hw A hm]
  simp (disch:=first|omega|assumption|(constructor<;>first|assumption|omega)|simp only[LN];omega) only[↓SB,S1,↓cj,↓bk A.get (j:=15) (v:=.list []) (y:={ x with queue:=[] }) rfl]
  exact fun h=>absurd (by unfold jY bp;simp) h
theorem yG{c:Config}{self:Int}{n:Node}{k:Nat}{x:Topic}{b:Bool}{why:Int}(hw:ax c self n=0)(ht:rng (k:Int) 0 (c.topics-1)=true)(A:AtOk c self n k x)(hm:x.made=true)(h:x.sub= !b) :
  cN c self n k b why=(bp n k { x with sub:=b,queue:=[] },0)∧ax c self (bp n k { x with sub:=b,queue:=[] })=0∧AtOk c self (bp n k { x with sub:=b,queue:=[] }) k { x with sub:=b,queue:=[] }:=by
 have hlt:=A.lt
 have hc:=(ca hw).1
 have h1:cN c self n k b why=(bp n k { bi n k with sub:=b,queue:=[] },0):=JX (mB hw ht (by rw[A.at_];exact hm)) (by rw[A.at_,h];cases b<;>simp)
 rw[A.at_] at h1
 refine ⟨h1,ri hw hlt (zE hc A.ok),?_,zE hc A.ok,JW hlt,by simp[bp,hlt]⟩
 simp[bp,hlt]
theorem MY{c:Config}{self:Int}{n:Node}{k:Nat}{x:Topic}{b:Bool}{why:Int}(hw:ax c self n=0)(ht:rng (k:Int) 0 (c.topics-1)=true)(A:AtOk c self n k x)(hm:x.made=true)(h:x.sub=b):cN c self n k b why=(ba,why) :=
 JY (mB hw ht (by rw[A.at_];exact hm)) (by rw[A.at_];exact h)
theorem RZ{c:Config}{self:Int}{n:Node}{k:Nat}{x:Topic}{b:Bool}{why:Int}(hw:ax c self n=0)(ht:rng (k:Int) 0 (c.topics-1)=true)(A:AtOk c self n k x)(hm:x.made=false):cN c self n k b why=(ba,7):=by
 have h:=o4 hw ht (by rw[A.at_];exact hm)
 rw[JZ (by rw[h];decide),h]
def cI:=And.intro @fv (And.intro @bD (And.intro @il (And.intro @jx (And.intro @nK (And.intro @eD (@jF))))))
theorem yH(c:Config)(self:Int)(n:Node)(t:Int)(hg:ag (dq (c,self,n,t)).2.1):WW ρ 18 lD dq (c,self,n,t):=by
 simp only[dq,RR] at hg ⊢
 unfold lD
 simp only[ag,bV,aR] at hg
 refine SUB.v1 (bb (aA n|| !decide (ax c self n=0))) ?_ ?_
 ·simp (disch:=first|omega|assumption|(constructor<;>first|assumption|omega)|simp only[LN];omega) only[↓SB,S1,↓cI]
  refine ⟨fun h=>?_,fun h=>?_⟩ <;>simp[h]
 by_cases hh0:(aA n|| !decide (ax c self n=0))=true
 ·simp (disch:=first|omega|assumption|(constructor<;>first|assumption|omega)|simp only[LN];omega) only[↓SB,S1,↓cI,hh0]
 have hh:(aA n|| !decide (ax c self n=0))=false:=by simpa using hh0
 simp only[Bool.or_eq_false_iff,Bool.not_eq_false',decide_eq_true_eq] at hh
 obtain ⟨hhv,hw⟩:=hh
 obtain ⟨hc,hs,hu,H⟩:=ca hw
 have hcb:=dh hc
 have huc:=Ka (n:=c.topics) (by omega) (by omega)
 have hk0:0≤u64 t % c.topics∧u64 t % c.topics<c.topics:=⟨Int.emod_nonneg _ (by omega),Int.emod_lt_of_pos _ (by omega)⟩
 simp (disch:=first|omega|assumption|(constructor<;>first|assumption|omega)|simp only[LN];omega) only[↓SB,S1,↓cI,hh0,huc]
 generalize u64 t % c.topics=T at hk0 ⊢
 have hrt:rng T 0 (c.topics-1)=true:=by simp[rng];omega
 obtain ⟨k,x,rfl,A⟩:=lQ hw hrt
 have hlt:=A.lt
 simp (disch:=first|omega|assumption|(constructor<;>first|assumption|omega)|simp only[LN];omega) only[↓SB,S1,↓cI,ab A.get]
 refine ⟨fun hm=>?_,fun hm=>?_⟩
 ·rw[RZ hw hrt A hm,RZ hw hrt A hm]
  simp
 simp (disch:=first|omega|assumption|(constructor<;>first|assumption|omega)|simp only[LN];omega) only[↓SB,S1,↓cI,ab A.get,↓bk A.get (j:=15) (v:=.list []) (y:={ x with queue:=[] }) rfl]
 refine ⟨fun hs=>?_,fun hs=>?_⟩
 ·obtain ⟨t1,w1,A1⟩:=yG (b:=false) (why:=7) hw hrt A hm hs
  obtain ⟨t2,w2,A2⟩:=yG (b:=true) (why:=8) w1 hrt A1 hm rfl
  have t3:=MY (b:=false) (why:=7) w1 hrt A1 hm rfl
  have g1:=rj w1
  rw[t1]
  simp (disch:=first|omega|assumption|(constructor<;>first|assumption|omega)|simp only[LN];omega) only[↓SB,S1,↓cI]
  rw[t2,t3]
  simp[bp,hs]
 ·obtain ⟨t1,w1,A1⟩:=yG (b:=true) (why:=8) hw hrt A hm hs
  obtain ⟨t2,w2,A2⟩:=yG (b:=false) (why:=7) w1 hrt A1 hm rfl
  have t3:=MY (b:=true) (why:=8) w1 hrt A1 hm rfl
  have g1:=rj w1
  rw[t1]
  simp (disch:=first|omega|assumption|(constructor<;>first|assumption|omega)|simp only[LN];omega) only[↓SB,S1,↓cI]
  rw[t2,t3]
  simp[bp,hs]
end Go.Xt
end
section
set_option linter.unusedSimpArgs false
set_option linter.unusedVariables false
set_option maxRecDepth 100000
namespace Go.Xt
set_option linter.defProp false
set_option maxHeartbeats 4000000
theorem Dh{self:Int}{n:Node}: ∀ {l r:List Msg},dz self n l=some r→ ∀y∈r,∃x∈l,y=ub self n x
 | [],r,h,y,hy=>by simp[dz] at h;subst h;simp at hy
 | x::l,r,h,y,hy=>by
  rw[dz] at h
  split at h
  ·split at h
   ·obtain ⟨r2,h2,rfl⟩:=Option.map_eq_some_iff.1 h
    rcases List.mem_cons.1 hy with rfl | hy
    ·exact ⟨x,by simp,rfl⟩
    ·obtain ⟨z,h3,h4⟩:=Dh h2 y hy
     exact ⟨z,by simp[h3],h4⟩
   ·cases h
  ·obtain ⟨z,h3,h4⟩:=Dh h y hy
   exact ⟨z,by simp[h3],h4⟩
theorem zF{self:Int}{n:Node}{l:List Msg}{y:Msg}(h:y∈kI self n l): ∃x∈l,y=ub self n x:=by
 unfold kI at h
 cases hg:dz self n l with
 | none=>rw[hg] at h;simp at h
 | some r=>rw[hg] at h;exact Dh hg y h
theorem MZ{c:Config}{self:Int}{n:Node}{x:Msg}: ∀m∈(iv c self n x).2,m.topic=x.topic:=by
 unfold iv lP goN
 split
 ·split
  ·simp
  ·simp;split<;>rfl
 ·split
  ·unfold lP;split
   ·simp
   ·simp
  ·simp
structure ROk (c:Config) (me:Int) (n:Node) (k:Int) (m:Node) (out:List Msg) (e:Int):Prop where
 no:e≠0→m=ba∧out=[]
 ok:e=0→ax c me m=0∧m.inc=n.inc
 out: ∀y∈out,y.frm=me∧y.topic=k∧(y.kind=7∨y.kind=10∨y.kind=11)
theorem Di{self:Int}{m:Node}{l:List Msg}{k:Int}(h: ∀x∈l,x.topic=k∧(x.kind=7∨x.kind=10∨x.kind=11)): ∀y∈kI self m l,y.frm=self∧y.topic=k∧(y.kind=7∨y.kind=10∨y.kind=11):=by
 intro y hy
 obtain ⟨x,h1,rfl⟩:=zF hy
 exact ⟨rfl,(h x h1).1,(h x h1).2⟩
theorem S4{c:Config}{self:Int}{n:Node}{t:Int}(hw:ax c self n=0)(ht:rng t 0 (c.topics-1)=true):ROk c self n t (dl c self n t).1 [] (dl c self n t).2:=by
 obtain ⟨k,x,rfl,A⟩:=lQ hw ht
 unfold dl
 rw[if_pos (pB hw ht),A.at_]
 split
 ·exact ⟨fun _=>⟨rfl,rfl⟩,fun h=>by simp at h,by simp⟩
 ·exact ⟨fun h=>absurd rfl h,fun _=>⟨ri hw A.lt (OI A.ok),rfl⟩,by simp⟩
theorem S5{c:Config}{self:Int}{n:Node}{t:Int}{b:Bool}{why:Int}(hw:ax c self n=0)(ht:rng t 0 (c.topics-1)=true)(hy:why≠0):ROk c self n t (cN c self n t b why).1 [] (cN c self n t b why).2:=by
 obtain ⟨k,x,rfl,A⟩:=lQ hw ht
 unfold cN
 split
 ·rw[A.at_]
  split
  ·exact ⟨fun _=>⟨rfl,rfl⟩,fun h=>absurd h hy,by simp⟩
  ·exact ⟨fun h=>absurd rfl h,fun _=>⟨ri hw A.lt (zE (ca hw).1 A.ok),rfl⟩,by simp⟩
 ·rename_i h;exact ⟨fun _=>⟨rfl,rfl⟩,fun h1=>absurd h1 h,by simp⟩
theorem Um{c:Config}{self:Int}{n:Node}{t:Int}(hw:ax c self n=0)(ht:rng t 0 (c.topics-1)=true):ROk c self n t (dL c self n t).1 [] (dL c self n t).2.2:=by
 obtain ⟨k,x,rfl,A⟩:=lQ hw ht
 unfold dL
 split
 ·rw[A.at_]
  cases hq:x.queue with
  | nil=>exact ⟨fun _=>⟨rfl,rfl⟩,fun h=>by simp at h,by simp⟩
  | cons y r =>
   have h1:=sX A.ok
   rw[hq] at h1
   exact ⟨fun h=>absurd rfl h,fun _=>⟨ri hw A.lt (pz A.ok (Dc h1)),rfl⟩,by simp⟩
 ·rename_i h;exact ⟨fun _=>⟨rfl,rfl⟩,fun h1=>absurd h1 h,by simp⟩
theorem Un{c:Config}{self:Int}{n:Node}{k:Nat}{x:Topic}(A:AtOk c self n k x):AtOk c self { n with pubs:=n.pubs+1 } k x:=⟨A.get,A.ok,A.at_,A.lt⟩
theorem GU{c:Config}{self:Int}{n:Node}{t v:Int}(hw:ax c self n=0)(ht:rng t 0 (c.topics-1)=true):ROk c self n t (bf c self n t v).1 (bf c self n t v).2.1 (bf c self n t v).2.2.2:=by
 obtain ⟨k,x,rfl,A⟩:=lQ hw ht
 unfold bf
 split
 ·split
  ·rename_i hv
   unfold fG
   split
   ·exact ⟨fun _=>⟨rfl,rfl⟩,fun h=>by simp at h,by simp⟩
   ·rename_i hp
    have hw2:=Td hw (by omega)
    have A2:=Un A
    unfold GA
    simp only[A.at_]
    split
    ·split
     ·rename_i h0
      have hA:=vt (yD hw ht A) hv h0
      refine ⟨fun h=>absurd rfl h,fun _=>⟨?_,rfl⟩,Di fun y hy=>?_⟩
      ·rw[hA.eq];exact ri hw2 A.lt hA.ok
      ·rw[hA.eq] at hy;have:=vu hy;exact ⟨this.2.2.2,.inl this.2.2.1⟩
     ·rename_i h0;exact ⟨fun _=>⟨rfl,rfl⟩,fun h=>absurd h h0,by simp⟩
    ·refine ⟨fun h=>absurd rfl h,fun _=>⟨hw2,rfl⟩,Di fun y hy=>?_⟩
     rw[List.mem_singleton] at hy;subst hy
     exact ⟨rfl,.inr (.inl rfl)⟩
  ·exact ⟨fun _=>⟨rfl,rfl⟩,fun h=>by simp at h,by simp⟩
 ·rename_i h;exact ⟨fun _=>⟨rfl,rfl⟩,fun h1=>absurd h1 h,by simp⟩
theorem Qr{c:Config}{self:Int}{n:Node}{t v:Int}(hw:ax c self n=0)(ht:rng t 0 (c.topics-1)=true):ROk c self n t (cy c self n t v).1 (cy c self n t v).2.1 (cy c self n t v).2.2.2:=by
 unfold cy
 split
 ·split
  ·rename_i h0
   obtain ⟨h1,h2,h3,h4⟩:=Pu h0
   obtain ⟨b1,b2,b3,b4,b5,b6⟩:=GM h1 h2 h3 h4 rfl
   refine ⟨fun h=>absurd rfl h,fun _=>⟨b4,b5⟩,Di fun y hy=>?_⟩
   have e:(aN c self n t v).2.1=(iv c self { n with asks:=n.asks+1,calls:=n.calls++[⟨n.asks+1,t,0⟩],marks:=jB n.marks self n.inc (n.asks+1) } { lL with topic:=t,node:=self,inc:=n.inc,count:=n.asks+1,value:=v }).2:=by
    unfold aN;rw[if_pos h1,if_pos (by rw[h2,h3];rfl),if_pos h4]
   have ht2:=MZ y (by rw[e] at hy;exact hy)
   rcases b6 with b6 | ⟨m,b6,b7,_⟩
   ·rw[b6.1] at hy;simp at hy
   ·rw[b6,List.mem_singleton] at hy;subst hy;exact ⟨ht2,.inr (.inr b7)⟩
  ·rename_i h0;exact ⟨fun _=>⟨rfl,rfl⟩,fun h=>absurd h h0,by simp⟩
 ·rename_i h;exact ⟨fun _=>⟨rfl,rfl⟩,fun h1=>absurd h1 h,by simp⟩
def lJ(c:Config)(self:Int)(n:Node)(t v d:Int):Node×List Msg×Int :=
 if d=0 then ((dl c self n t).1,[],(dl c self n t).2)
 else if d=1 then ((cN c self n t true 8).1,[],(cN c self n t true 8).2)
 else if d=2 then ((cN c self n t false 7).1,[],(cN c self n t false 7).2)
 else if d=3 then ((bf c self n t v).1,(bf c self n t v).2.1,(bf c self n t v).2.2.2)
 else if d=4 then ((cy c self n t v).1,(cy c self n t v).2.1,(cy c self n t v).2.2.2)
 else ((dL c self n t).1,[],(dL c self n t).2.2)
theorem Uo{c:Config}{self:Int}{n:Node}{t v d:Int}(hw:ax c self n=0)(ht:rng t 0 (c.topics-1)=true):ROk c self n t (lJ c self n t v d).1 (lJ c self n t v d).2.1 (lJ c self n t v d).2.2:=by
 unfold lJ
 split
 ·exact S4 hw ht
 split
 ·exact S5 hw ht (by decide)
 split
 ·exact S5 hw ht (by decide)
 split
 ·exact GU hw ht
 split
 ·exact Qr hw ht
 ·exact Um hw ht
theorem x6{self:Int}{n:Node}: ∀ {l r:List Msg},dz self n l=some r→r.length≤l.length
 | [],r,h=>by simp[dz] at h;subst h;simp
 | x::l,r,h=>by
  rw[dz] at h
  split at h
  ·split at h
   ·obtain ⟨r2,h2,rfl⟩:=Option.map_eq_some_iff.1 h
    have:=x6 h2
    simp;omega
   ·cases h
  ·have:=x6 h;simp;omega
theorem rl(self:Int)(n:Node)(l:List Msg):(kI self n l).length≤l.length:=by
 unfold kI
 cases hg:dz self n l with
 | none=>simp
 | some r=>exact x6 hg
theorem S6{c:Config}{self:Int}{n:Node}{t v d:Int}(hw:ax c self n=0)(ht:rng t 0 (c.topics-1)=true):(lJ c self n t v d).2.1.length≤1000:=by
 unfold lJ
 split
 ·simp
 split
 ·simp
 split
 ·simp
 split
 ·show (bf c self n t v).2.1.length≤1000
  obtain ⟨k,x,rfl,A⟩:=lQ hw ht
  unfold bf
  split
  ·split
   ·rename_i hv
    unfold fG
    split
    ·simp
    ·unfold GA
     simp only[A.at_]
     split
     ·split
      ·exact Nat.le_trans (rl _ _ _) (sZ (yD hw ht A) hv).1
      ·simp
     ·exact Nat.le_trans (rl _ _ _) (by simp)
   ·simp
  ·simp
 split
 ·show (cy c self n t v).2.1.length≤1000
  unfold cy
  split
  ·split
   ·rename_i h0;exact Nat.le_trans (rl _ _ _) (x4 h0).1
   ·simp
  ·simp
 ·simp
def bd:=And.intro @fv (And.intro @bD (And.intro @lx (And.intro @il (And.intro @nK (And.intro @gS (And.intro @lw (And.intro @eD (And.intro @jF (And.intro @tc (@lv))))))))))
theorem x7(c:Config)(self:Int)(n:Node)(t:Int)(value:Int)(kind:Int)(hg:ag (cZ (c,self,n,t,value,kind)).2.1):WW ρ 20 kA cZ (c,self,n,t,value,kind):=by
 simp only[cZ,RR] at hg ⊢
 unfold kA
 simp only[ag,bV,aR] at hg
 refine SUB.v1 (bb (aA n|| !decide (ax c self n=0))) ?_ ?_
 ·simp (disch:=first|omega|assumption|(constructor<;>first|assumption|omega)|simp only[LN];omega) only[↓SB,S1,↓bd]
  refine ⟨fun h=>?_,fun h=>?_⟩ <;>simp[h]
 by_cases hh0:(aA n|| !decide (ax c self n=0))=true
 ·simp (disch:=first|omega|assumption|(constructor<;>first|assumption|omega)|simp only[LN];omega) only[↓SB,S1,↓bd,hh0]
 have hh:(aA n|| !decide (ax c self n=0))=false:=by simpa using hh0
 simp only[Bool.or_eq_false_iff,Bool.not_eq_false',decide_eq_true_eq] at hh
 obtain ⟨hhv,hw⟩:=hh
 obtain ⟨hc,hs,hu,H⟩:=ca hw
 have hcb:=dh hc
 have huc:=Ka (n:=c.topics) (by omega) (by omega)
 have hk0:0≤u64 t % c.topics∧u64 t % c.topics<c.topics:=⟨Int.emod_nonneg _ (by omega),Int.emod_lt_of_pos _ (by omega)⟩
 have hk2:0≤u64 value % 2147483648∧u64 value % 2147483648<2147483648:=⟨Int.emod_nonneg _ (by omega),Int.emod_lt_of_pos _ (by omega)⟩
 simp (disch:=first|omega|assumption|(constructor<;>first|assumption|omega)|simp only[LN];omega) only[↓SB,S1,↓bd,hh0,huc]
 generalize u64 t % c.topics=T at hk0 ⊢
 generalize u64 value % 2147483648=V at hk2 ⊢
 generalize u64 kind % 6=D
 have hrt:rng T 0 (c.topics-1)=true:=by simp[rng];omega
 refine SUB.val [L (lJ c self n T V D).2.1,I (lJ c self n T V D).2.2,bb (lJ c self n T V D).1.up,I (lJ c self n T V D).1.inc,L (lJ c self n T V D).1.peers,L (lJ c self n T V D).1.topics,L (lJ c self n T V D).1.calls,I (lJ c self n T V D).1.pubs,I (lJ c self n T V D).1.asks,L (lJ c self n T V D).1.marks,L (lJ c self n T V D).1.taken] rfl ?_ ?_
 ·unfold lJ
  by_cases d0:D=0
  ·subst d0;simp (disch:=first|omega|assumption|(constructor<;>first|assumption|omega)|simp only[LN];omega) only[↓SB,S1,↓bd];rfl
  by_cases d1:D=1
  ·subst d1;simp (disch:=first|omega|assumption|(constructor<;>first|assumption|omega)|simp only[LN];omega) only[↓SB,S1,↓bd,Int.reduceEq];rfl
  by_cases d2:D=2
  ·subst d2;simp (disch:=first|omega|assumption|(constructor<;>first|assumption|omega)|simp only[LN];omega) only[↓SB,S1,↓bd,Int.reduceEq];rfl
  by_cases d3:D=3
  ·subst d3;simp (disch:=first|omega|assumption|(constructor<;>first|assumption|omega)|simp only[LN];omega) only[↓SB,S1,↓bd,Int.reduceEq]
  by_cases d4:D=4
  ·subst d4;simp (disch:=first|omega|assumption|(constructor<;>first|assumption|omega)|simp only[LN];omega) only[↓SB,S1,↓bd,Int.reduceEq]
  simp (disch:=first|omega|assumption|(constructor<;>first|assumption|omega)|simp only[LN];omega) only[↓SB,S1,↓bd,d0,d1,d2,d3,d4]
  rfl
 have hR:=Uo (v:=V) (d:=D) hw hrt
 have hKl:=S6 (v:=V) (d:=D) hw hrt
 generalize lJ c self n T V D=W at hR hKl ⊢
 simp only[app]
 simp (disch:=first|omega|assumption|(constructor<;>first|assumption|omega)|simp only[LN];omega) only[↓SB,S1,↓bd]
 refine ⟨fun h=>?_,fun h=>?_⟩
 ·obtain ⟨e1,e2⟩:=hR.no h
  rw[e1,e2];simp[ba]
 obtain ⟨r1,r2⟩:=hR.ok h
 refine aw.rule (α:=Nat) (fun i=>[I i]) (fun i=>i≤W.2.1.length) (fun i=>W.2.1.length-i) 0 rfl (by omega) (fun _=>rfl) ?_
 intro i hi
 simp only[app]
 have hml:W.2.1.length≤1000:=hKl
 simp (disch:=first|omega|assumption|(constructor<;>first|assumption|omega)|simp only[LN];omega) only[↓SB,S1,↓bd]
 refine ⟨fun h4=>?_,fun h4=>⟨fun _ h6=>absurd r2 h6,fun h6=>absurd r1 h6⟩⟩
 obtain ⟨y,hy⟩:=am h4
 obtain ⟨o1,o2,o3⟩:=hR.out y (List.mem_of_getElem? hy)
 have hnext: ∃a':Nat,[I ((i:Int)+1)]=[I (a':Int)]∧a'≤W.2.1.length∧W.2.1.length-a'<W.2.1.length-i:=⟨i+1,by simp,by omega,by omega⟩
 rcases o3 with k | k | k<;>simp (disch:=first|omega|assumption|(constructor<;>first|assumption|omega)|simp only[LN];omega) only[↓SB,S1,↓bd,ab hy,o1,o2,k,Int.reduceEq]<;>exact hnext
end Go.Xt
end
section
set_option linter.unusedSimpArgs false
set_option linter.unusedVariables false
set_option maxRecDepth 100000
namespace Go.Xt
set_option linter.defProp false
set_option maxHeartbeats 4000000
theorem OK{self:Int}{x:Topic}(hs:0≤self∧self<16)(hr:x.root≤x.top)(h0:(ak self x).2=0):(ak self x).1=x∨(x.root<(ak self x).1.root∧(ak self x).1.stream.ahead=[]):=by
 unfold ak at h0 ⊢
 split
 ·exact .inl rfl
 ·rename_i h
  rw[if_neg h] at h0
  split
  ·rename_i h2;rw[if_pos h2] at h0;simp at h0
  ·rename_i h2
   refine .inr ⟨?_,rfl⟩
   have hn:jP self x.top=nz self x.top:=by
    unfold jP at h2 ⊢
    split
    ·rename_i h3;rw[if_pos h3] at h2;exact absurd rfl h2
    ·rfl
   have:=Tn (n:=self) (top:=x.top) hs.1 hs.2
   show x.root<jP self x.top
   omega
theorem Px{l:List Item}{w m v:Int}(h:1≤m):qX l w m v≠[]:=by
 intro e
 have:=ML l w m v
 rw[e] at this
 simp at this;omega
theorem Qs{l:List Item}{w m v:Int}(h:1≤m):(qX l w m v).any (fun z=>decide (z.value=v))=true:=by
 rw[yx,List.any_eq_true]
 refine ⟨⟨w,v⟩,?_,by simp⟩
 have:l.length+1-m.toNat≤l.length:=by omega
 rw[List.drop_append_of_le_length this];simp
theorem Py{c:Config}{sub:Bool}(h:1≤c.keep): ∀ {l:List Item} {r:Stream×List Event×List Item},r.1.kept≠[]→(dD c sub r l).1.kept≠[]
 | [],r,h1=>h1
 | x::l,r,h1=>Py h (l:=l) (r:=eI c sub r x.value) (Px h)
theorem Qt{c:Config}{s:Stream}{sub:Bool}{q:List Event}{v:Int}(h:1≤c.keep):(ce c s sub q v).1.kept≠[]∧(s.ahead=[]→(ce c s sub q v).1.kept.any (fun z=>decide (z.value=v))=true):=by
 refine ⟨?_,fun ha=>?_⟩
 ·show (dD c sub (eI c sub (s,q,[]) v) (bu s.ahead (s.want+1))).1.kept≠[]
  exact Py h (Px h)
 ·show (dD c sub (eI c sub (s,q,[]) v) (bu s.ahead (s.want+1))).1.kept.any _=true
  rw[ha]
  exact Qs h
structure NewOk (c:Config) (x b:Topic) (v:Int):Prop where
 ne:x≠b
 root:b.root≠0
 top:b.root=b.top
 le:x.root≤b.root
 epoch:b.stream.epoch=b.root
 kept:b.stream.kept≠[]
 len:b.stream.kept.length≤16
 met:x.stream.ahead=[]→b.stream.kept.any (fun z=>decide (z.value=v))=true
theorem Up{c:Config}{self:Int}{k:Nat}{x:Topic}{v:Int}(hw:ua c k self x=0)(hv:val v=true)(h0:(au c k self x v).2.2=0):NewOk c x (au c k self x v).1 v:=by
 obtain ⟨hc,hp,ht⟩:=uP hw
 have hcb:=dh hc
 have hA:=vt hw hv h0
 have hB:=hA.B
 have hs:=dr.1 (uL hc hp).2.1
 have hI:=x3 (sub:=(ak self x).1.sub) hB.flow hv (by have:=hA.want;omega)
 have hk:=Qt (c:=c) (s:=(ak self x).1.stream) (sub:=(ak self x).1.sub) (q:=(ak self x).1.queue) (v:=v) (by omega)
 have hle:x.root≤x.top:=by
  have hT:=kV.1 ht
  have hr:=hT.root
  have htb:=aZ hT.top
  simp only[lY,Bool.or_eq_true,Bool.and_eq_true,decide_eq_true_eq] at hr
  omega
 have h0':(ak self x).2=0:=by
  unfold au at h0
  by_cases h:(ak self x).2=0
  ·exact h
  ·rw[if_pos h] at h0;exact h0
 have hn:=OK (self:=self) (x:=x) (by omega) hle h0'
 have hkl:=GR hA.item.inv.kept
 rw[hA.eq]
 generalize (ak self x).1=y at hB hI hk hn hkl ⊢
 generalize ce c y.stream y.sub y.queue v=r at hI hk hkl ⊢
 refine ⟨?_,hB.root,hB.top,hB.le,hI.1.trans hB.epoch,hk.1,hkl,fun ha=>hk.2 ?_⟩
 ·intro e
  rcases hn with rfl | hn
  ·have:y.stream.want=r.1.want:=congrArg (fun z=>z.stream.want) e
   have:=hI.2.2
   omega
  ·have:x.root=y.root:=congrArg (fun z=>z.root) e
   omega
 ·rcases hn with rfl | hn
  ·exact ha
  ·exact hn.2
inductive PubOk (c:Config) (me:Int) (n:Node) (k:Nat) (x:Topic) (v:Int):Node×List Msg×Int×Int→Prop
 | err (e:Int) (h:e=7∨e=11):PubOk c me n k x v (ba,[],0,e)
 | out (out:List Msg) (h:out=[]∨ ∃z:Msg,out=[z]∧z.kind=10∧z.node=me∧z.inc=n.inc∧z.count=n.pubs+1∧z.value=v∧z.hops=0):PubOk c me n k x v ({ n with pubs:=n.pubs+1 },out,n.pubs+1,0)
 | own (b:Topic) (out:List Msg) (hb:NewOk c x b v) (hl:out.length≤1000) (h: ∀z∈out,z.kind=7):PubOk c me n k x v (bp { n with pubs:=n.pubs+1 } k b,out,n.pubs+1,0)
theorem S7{c:Config}{t self:Int}{x:Topic}{v:Int}:(au c t self x v).2.2=0∨(au c t self x v).2.2=11:=by
 unfold au
 split
 ·rename_i h
  right
  show (ak self x).2=11
  unfold ak at h ⊢
  split
  ·rename_i h1;rw[if_pos h1] at h;exact absurd rfl h
  ·rename_i h1;rw[if_neg h1] at h
   split
   ·rfl
   ·rename_i h2;rw[if_neg h2] at h;exact absurd rfl h
 ·split
  ·right;rfl
  ·left;rfl
theorem Uq{c:Config}{self:Int}{n:Node}{k:Nat}{x:Topic}{v:Int}(hw:ax c self n=0)(ht:rng (k:Int) 0 (c.topics-1)=true)(A:AtOk c self n k x)(hv:val v=true):PubOk c self n k x v (bf c self n k v):=by
 unfold bf
 split
 ·unfold fG
  split
  ·exact .err _ (.inr rfl)
  ·unfold GA
   simp only[A.at_]
   split
   ·split
    ·rename_i h0
     have htw:=yD hw ht A
     refine .own _ _ (Up htw hv h0) (Nat.le_trans (rl _ _ _) (sZ htw hv).1) fun z hz=>?_
     obtain ⟨y,hy,rfl⟩:=zF hz
     have hA:=vt htw hv h0
     rw[hA.eq] at hy
     exact (vu hy).2.2.1
    ·rename_i h0
     rcases S7 (c:=c) (t:=k) (self:=self) (x:=x) (v:=v) with h | h
     ·exact absurd h h0
     ·rw[h];exact .err _ (.inr rfl)
   ·refine .out _ ?_
    cases hL:kI self { n with pubs:=n.pubs+1 } [Lx self n k v] with
    | nil=>exact .inl rfl
    | cons z r =>
     have hl:=rl self { n with pubs:=n.pubs+1 } [Lx self n k v]
     rw[hL] at hl
     have hr:r=[]:=by cases r with
      | nil=>rfl
      | cons _ _=>simp at hl
     subst hr
     obtain ⟨y,hy,hz⟩:=zF (self:=self) (n:={ n with pubs:=n.pubs+1 }) (l:=[Lx self n k v]) (y:=z) (by rw[hL];simp)
     rw[List.mem_singleton] at hy
     subst hy;subst hz
     exact .inr ⟨_,rfl,rfl,rfl,rfl,rfl,rfl,rfl⟩
 ·rename_i h
  have hm:aH c self n k=7:=by
   cases hb:(bi n k).made with
   | true=>exact absurd (mB hw ht hb) h
   | false=>exact o4 hw ht hb
  rw[hm];exact .err _ (.inl rfl)
theorem Ur{v:Int}(h0:0≤v)(h1:v<2147483648):val v=true:=by simp[val,rng];omega
def al:=And.intro @fv (And.intro @bD (And.intro @il (And.intro @gS (@vT))))
theorem uT(c:Config)(self:Int)(n:Node)(t:Int)(value:Int)(hg:ag (cm (c,self,n,t,value)).2.1):WW ρ 19 jb cm (c,self,n,t,value):=by
 simp only[cm,RR] at hg ⊢
 unfold jb
 simp only[ag,bV,aR] at hg
 refine SUB.v1 (bb (aA n|| !decide (ax c self n=0))) ?_ ?_
 ·simp (disch:=first|omega|assumption|(constructor<;>first|assumption|omega)|simp only[LN];omega) only[↓SB,S1,↓al]
  refine ⟨fun h=>?_,fun h=>?_⟩ <;>simp[h]
 by_cases hh0:(aA n|| !decide (ax c self n=0))=true
 ·simp (disch:=first|omega|assumption|(constructor<;>first|assumption|omega)|simp only[LN];omega) only[↓SB,S1,↓al,hh0]
 have hh:(aA n|| !decide (ax c self n=0))=false:=by simpa using hh0
 simp only[Bool.or_eq_false_iff,Bool.not_eq_false',decide_eq_true_eq] at hh
 obtain ⟨hhv,hw⟩:=hh
 obtain ⟨hc,hs,hu,H⟩:=ca hw
 have hcb:=dh hc
 have huc:=Ka (n:=c.topics) (by omega) (by omega)
 have hk0:0≤u64 t % c.topics∧u64 t % c.topics<c.topics:=⟨Int.emod_nonneg _ (by omega),Int.emod_lt_of_pos _ (by omega)⟩
 have hk2:0≤u64 value % 2147483648∧u64 value % 2147483648<2147483648:=⟨Int.emod_nonneg _ (by omega),Int.emod_lt_of_pos _ (by omega)⟩
 simp (disch:=first|omega|assumption|(constructor<;>first|assumption|omega)|simp only[LN];omega) only[↓SB,S1,↓al,hh0,huc]
 generalize u64 t % c.topics=T at hk0 ⊢
 generalize u64 value % 2147483648=V at hk2 ⊢
 have hrt:rng T 0 (c.topics-1)=true:=by simp[rng];omega
 obtain ⟨k,x,rfl,A⟩:=lQ hw hrt
 have hlt:=A.lt
 have hP:=Uq hw hrt A (Ur hk2.1 hk2.2)
 have hpb:=aZ H.pubs
 generalize bf c self n k V=P at hP ⊢
 cases hP with
 | err e h =>
  rcases h with rfl | rfl
  ·simp (disch:=first|omega|assumption|(constructor<;>first|assumption|omega)|simp only[LN];omega) only[↓SB,S1,↓al,Int.reduceEq]
   simp
  ·simp (disch:=first|omega|assumption|(constructor<;>first|assumption|omega)|simp only[LN];omega) only[↓SB,S1,↓al,Int.reduceEq]
   simp
 | out out h =>
  refine ⟨fun h=>absurd rfl h,fun _=>?_⟩
  refine SUB.v1 (bb false) ?_ ?_
  ·simp (disch:=first|omega|assumption|(constructor<;>first|assumption|omega)|simp only[LN];omega) only[↓SB,S1,↓al]
  simp (disch:=first|omega|assumption|(constructor<;>first|assumption|omega)|simp only[LN];omega) only[↓SB,S1,↓al]
  refine SUB.val [bb x.made,bb x.sub,I x.top,I x.root,I x.parent,I x.asked,I x.other,I x.age,L x.path,L x.kids,I x.stream.epoch,I x.stream.want,I x.stream.known,L x.stream.kept,L x.stream.ahead,L x.queue,bb x.made,bb x.sub,I x.top,I x.root,I x.parent,I x.asked,I x.other,I x.age,L x.path,L x.kids,I x.stream.epoch,I x.stream.want,I x.stream.known,L x.stream.kept,L x.stream.ahead,L x.queue,bb x.made,bb x.sub,I x.top,I x.root,I x.parent,I x.asked,I x.other,I x.age,L x.path,L x.kids,I x.stream.epoch,I x.stream.want,I x.stream.known,L x.stream.kept,L x.stream.ahead,L x.queue,bb x.made,bb x.sub,I x.top,I x.root,I x.parent,I x.asked,I x.other,I x.age,L x.path,L x.kids,I x.stream.epoch,I x.stream.want,I x.stream.known,L x.stream.kept,L x.stream.ahead,L x.queue] rfl ?_ ?_
  ·simp (disch:=first|omega|assumption|(constructor<;>first|assumption|omega)|simp only[LN];omega) only[↓SB,S1,↓al,ab A.get]
  simp only[app]
  rcases h with rfl | ⟨z,rfl,z1,z2,z3,z4,z5,z6⟩
  ·simp (disch:=first|omega|assumption|(constructor<;>first|assumption|omega)|simp only[LN];omega) only[↓SB,S1,↓al]
   refine SUB.v1 (bb false) ?_ ?_
   ·simp (disch:=first|omega|assumption|(constructor<;>first|assumption|omega)|simp only[LN];omega) only[↓SB,S1,↓al]
    intro h;simp at h
   simp (disch:=first|omega|assumption|(constructor<;>first|assumption|omega)|simp only[LN];omega) only[↓SB,S1,↓al]
   simp
  ·have hz0:([z]:List Msg)[0]? =some z:=rfl
   have hzc: ∀j,(L [z]).cellAt (I 0) j=look (Row.row z) j:=fun j=>ab (i:=0) hz0
   simp (disch:=first|omega|assumption|(constructor<;>first|assumption|omega)|simp only[LN];omega) only[↓SB,S1,↓al]
   refine SUB.v1 (bb true) ?_ ?_
   ·simp (disch:=first|omega|assumption|(constructor<;>first|assumption|omega)|simp only[LN];omega) only[↓SB,S1,↓al,hzc,z1]
    simp
   simp (disch:=first|omega|assumption|(constructor<;>first|assumption|omega)|simp only[LN];omega) only[↓SB,S1,↓al,hzc,z1,z2,z3,z4,z5,z6]
 | own b out hb hl h =>
  have e:bp { n with pubs:=n.pubs+1 } k b=⟨n.up,n.inc,n.peers,n.topics.set k b,n.calls,n.pubs+1,n.asks,n.marks,n.taken⟩:=by simp[bp]
  have hsl:(n.topics.set k b).length=n.topics.length:=by simp
  have hgb:(n.topics.set k b)[k]? =some b:=by simp[hlt]
  rw[e]
  refine ⟨fun h=>absurd rfl h,fun _=>?_⟩
  refine SUB.v1 (bb false) ?_ ?_
  ·simp (disch:=first|omega|assumption|(constructor<;>first|assumption|omega)|simp only[LN];omega) only[↓SB,S1,↓al]
   simp
  simp (disch:=first|omega|assumption|(constructor<;>first|assumption|omega)|simp only[LN];omega) only[↓SB,S1,↓al]
  refine SUB.val [bb x.made,bb x.sub,I x.top,I x.root,I x.parent,I x.asked,I x.other,I x.age,L x.path,L x.kids,I x.stream.epoch,I x.stream.want,I x.stream.known,L x.stream.kept,L x.stream.ahead,L x.queue,bb b.made,bb b.sub,I b.top,I b.root,I b.parent,I b.asked,I b.other,I b.age,L b.path,L b.kids,I b.stream.epoch,I b.stream.want,I b.stream.known,L b.stream.kept,L b.stream.ahead,L b.queue,bb b.made,bb b.sub,I b.top,I b.root,I b.parent,I b.asked,I b.other,I b.age,L b.path,L b.kids,I b.stream.epoch,I b.stream.want,I b.stream.known,L b.stream.kept,L b.stream.ahead,L b.queue,bb x.made,bb x.sub,I x.top,I x.root,I x.parent,I x.asked,I x.other,I x.age,L x.path,L x.kids,I x.stream.epoch,I x.stream.want,I x.stream.known,L x.stream.kept,L x.stream.ahead,L x.queue] rfl ?_ ?_
  ·simp (disch:=first|omega|assumption|(constructor<;>first|assumption|omega)|simp only[LN];omega) only[↓SB,S1,↓al,ab A.get,ab hgb]
  simp only[app]
  refine SUB.v1 (bb false) ?_ ?_
  ·simp (disch:=first|omega|assumption|(constructor<;>first|assumption|omega)|simp only[LN];omega) only[↓SB,S1,↓al]
   intro h1
   obtain ⟨y,hy⟩:=am (xs:=out) (i:=0) (by omega)
   have hyc: ∀j,(L out).cellAt (I 0) j=look (Row.row y) j:=fun j=>ab (i:=0) hy
   have hyk:=h y (List.mem_of_getElem? hy)
   simp (disch:=first|omega|assumption|(constructor<;>first|assumption|omega)|simp only[LN];omega) only[↓SB,S1,↓al,hyc,hyk,Int.reduceEq]
  have hne: ¬x=b:=hb.ne
  have hkl:=hb.len
  have hkn: ¬(b.stream.kept.length:Int)=0:=by
   have:=hb.kept
   intro h0
   exact this (List.eq_nil_of_length_eq_zero (by omega))
  have hbr:=hb.root;have hbt:=hb.top;have hble:=hb.le;have hbe:=hb.epoch
  simp (disch:=first|omega|assumption|(constructor<;>first|assumption|omega)|simp only[LN];omega) only[↓SB,S1,↓al,hne]
  refine SUB.v1 (bb false) ?_ ?_
  ·simp (disch:=first|omega|assumption|(constructor<;>first|assumption|omega)|simp only[LN];omega) only[↓SB,S1,↓al,hbr,hbt,hkn]
   exact ⟨fun h0=>absurd (hbt.trans h0) hbr,fun _ h0=>absurd h0 (by omega)⟩
  simp (disch:=first|omega|assumption|(constructor<;>first|assumption|omega)|simp only[LN];omega) only[↓SB,S1,↓al]
  refine aw.rule (α:=Nat) (fun i=>[bb ((b.stream.kept.take i).any fun z=>decide (z.value=V)),I i]) (fun i=>i≤b.stream.kept.length) (fun i=>b.stream.kept.length-i) 0 rfl (by omega) (fun _=>rfl) ?_
  intro i hi
  simp only[app]
  simp (disch:=first|omega|assumption|(constructor<;>first|assumption|omega)|simp only[LN];omega) only[↓SB,S1,↓al]
  refine ⟨fun h4=>?_,fun h4=>?_⟩
  ·obtain ⟨y,hy⟩:=am h4
   have hst:((b.stream.kept.take (i+1)).any fun z=>decide (z.value=V))=(((b.stream.kept.take i).any fun z=>decide (z.value=V))||decide (y.value=V)):=by rw[zx hy];simp
   simp (disch:=first|omega|assumption|(constructor<;>first|assumption|omega)|simp only[LN];omega) only[↓SB,S1,↓al,ab hy]
   exact ⟨fun h5=>⟨i+1,by rw[hst,h5];simp,by omega,by omega⟩,fun h5=>⟨i+1,by rw[hst,h5];simp,by omega,by omega⟩⟩
  ·have hie:i=b.stream.kept.length:=by omega
   subst hie
   rw[List.take_length]
   refine ⟨fun _ h=>absurd hbe h,fun h5=>⟨fun _ h=>absurd hbe h,fun h6=>?_⟩⟩
   have h7:=hb.met (List.eq_nil_of_length_eq_zero (by omega))
   rw[h5] at h7;cases h7
end Go.Xt
end
section
set_option linter.unusedSimpArgs false
set_option linter.unusedVariables false
set_option maxRecDepth 100000
namespace Go.Xt
set_option maxHeartbeats 4000000
def aC(l:Int):Config:=⟨1,4,2,8,8,8,l⟩
def aN0:Node:=⟨true,1,List.replicate 1 ⟨0,0⟩,List.replicate 4 fF,[],0,0,List.replicate 1 ⟨0,0,0⟩,[]⟩
def aN1(t l:Int):Node:=(dl (aC l) 0 aN0 t).1
def aN2(t l:Int):Node:=(cN (aC l) 0 (aN1 t l) t true 8).1
def aNx(t l:Int)(i:Nat)(n:Node):Node:=(bf (aC l) 0 n t (7*i)).1
def aAt(t l:Int):Nat→Node
 | 0=>aN2 t l
 | i+1=>aNx t l i (aAt t l i)
def aQ(l:Int)(i:Nat):List Event :=
 ((List.range (min i (l.toNat-1))).map fun (j:Nat)=>(⟨1,16,(j:Int)+1,0,7*(j:Int),0⟩:Event))++(if l.toNat≤i then [⟨2,16,l,i,0,0⟩] else [])
def aOk(t l:Int)(i:Nat)(n:Node):Bool:=decide ((bf (aC l) 0 n t (7*i)).2=([],(i:Int)+1,0))&&(bi n t).made&&decide ((bi n t).queue=aQ l i)
def Tf(t l:Int):Nat→Nat→Node→Bool
 | 0,_,_=>true
 | f+1,i,n=>aOk t l i n&&Tf t l f (i+1) (aNx t l i n)
theorem N4{t l:Int}: ∀(f i:Nat),Tf t l f i (aAt t l i)=true→ ∀d,d<f→aOk t l (i+d) (aAt t l (i+d))=true
 | 0,_,_,d,h=>by omega
 | f+1,i,h,d,hd=>by
  rw[Tf,Bool.and_eq_true] at h
  cases d with
  | zero=>exact h.1
  | succ d =>
   have:=N4 f (i+1) h.2 d (by omega)
   rw[show i+1+d=i+(d+1) by omega] at this;exact this
def aP(t:Int)(l:Nat):Prop:=((dl (aC (2+(l:Int))) 0 aN0 t).2=0∧(cN (aC (2+(l:Int))) 0 (aN1 t (2+(l:Int))) t true 8).2=0∧ax (aC (2+(l:Int))) 0 (aN2 t (2+(l:Int)))=0∧aA aN0=false∧aA (aN1 t (2+(l:Int)))=false)∧Tf t (2+(l:Int)) 50 0 (aN2 t (2+(l:Int)))=true
instance (t:Int) (l:Nat):Decidable (aP t l):=by unfold aP;infer_instance
theorem V0: ∀l:Fin 8,aP 0 (0+l.val):=by decide +kernel
theorem V1: ∀l:Fin 8,aP 0 (8+l.val):=by decide +kernel
theorem V2: ∀l:Fin 8,aP 0 (16+l.val):=by decide +kernel
theorem V3: ∀l:Fin 7,aP 0 (24+l.val):=by decide +kernel
theorem V4: ∀l:Fin 8,aP 1 (0+l.val):=by decide +kernel
theorem V5: ∀l:Fin 8,aP 1 (8+l.val):=by decide +kernel
theorem V6: ∀l:Fin 8,aP 1 (16+l.val):=by decide +kernel
theorem V7: ∀l:Fin 7,aP 1 (24+l.val):=by decide +kernel
theorem V8: ∀l:Fin 8,aP 2 (0+l.val):=by decide +kernel
theorem V9: ∀l:Fin 8,aP 2 (8+l.val):=by decide +kernel
theorem Va: ∀l:Fin 8,aP 2 (16+l.val):=by decide +kernel
theorem Vb: ∀l:Fin 7,aP 2 (24+l.val):=by decide +kernel
theorem Vc: ∀l:Fin 8,aP 3 (0+l.val):=by decide +kernel
theorem Vd: ∀l:Fin 8,aP 3 (8+l.val):=by decide +kernel
theorem Ve: ∀l:Fin 8,aP 3 (16+l.val):=by decide +kernel
theorem Vf: ∀l:Fin 7,aP 3 (24+l.val):=by decide +kernel
theorem a_l{t:Int}(h0: ∀l:Fin 8,aP t (0+l.val))(h1: ∀l:Fin 8,aP t (8+l.val))(h2: ∀l:Fin 8,aP t (16+l.val))(h3: ∀l:Fin 7,aP t (24+l.val)){l:Nat}(hl:l<31):aP t l:=by
 by_cases c1:l<8
 ·have:=h0 ⟨l,c1⟩;rwa [Nat.zero_add] at this
 by_cases c2:l<16
 ·have:=h1 ⟨l-8,by omega⟩;simp only at this;rwa [show 8+(l-8)=l by omega] at this
 by_cases c3:l<24
 ·have:=h2 ⟨l-16,by omega⟩;simp only at this;rwa [show 16+(l-16)=l by omega] at this
 ·have:=h3 ⟨l-24,by omega⟩;simp only at this;rwa [show 24+(l-24)=l by omega] at this
theorem To{t l:Nat}(ht:t<4)(hl:l<31):aP t l:=by
 match t,ht with
 | 0,_=>exact a_l V0 V1 V2 V3 hl
 | 1,_=>exact a_l V4 V5 V6 V7 hl
 | 2,_=>exact a_l V8 V9 Va Vb hl
 | 3,_=>exact a_l Vc Vd Ve Vf hl
end Go.Xt
end
section
set_option linter.unusedSimpArgs false
set_option linter.unusedVariables false
set_option maxRecDepth 100000
namespace Go.Xt
set_option linter.defProp false
set_option maxHeartbeats 4000000
theorem Pz{t l:Nat}(ht:t<4)(hl:l<31):(dl (aC (2+(l:Int))) 0 aN0 t).2=0∧(cN (aC (2+(l:Int))) 0 (aN1 t (2+(l:Int))) t true 8).2=0∧ax (aC (2+(l:Int))) 0 (aN2 t (2+(l:Int)))=0∧aA aN0=false∧aA (aN1 t (2+(l:Int)))=false:=by
 have h:=To ht hl
 unfold aP at h
 exact h.1
theorem Vg{t l i:Nat}(ht:t<4)(hl:l<31)(hi:i<50):aOk t (2+(l:Int)) i (aAt t (2+(l:Int)) i)=true:=by
 have h:=To ht hl
 unfold aP at h
 have:=N4 (t:=t) (l:=2+(l:Int)) 50 0 h.2 i hi
 rwa [Nat.zero_add] at this
theorem S8{t l:Nat}(ht:t<4):rng (t:Int) 0 ((aC (2+(l:Int))).topics-1)=true:=by
 show rng (t:Int) 0 (4-1)=true
 unfold rng
 rw[Bool.and_eq_true,decide_eq_true_eq,decide_eq_true_eq];omega
theorem Tp{t l:Nat}(ht:t<4)(hl:l<31): ∀ {i:Nat},i≤50→ax (aC (2+(l:Int))) 0 (aAt t (2+(l:Int)) i)=0
 | 0,_=>(Pz ht hl).2.2.1
 | i+1,hi=>by
  have ih:=Tp ht hl (i:=i) (by omega)
  have hok:=Vg ht hl (i:=i) (by omega)
  simp only[aOk,Bool.and_eq_true,decide_eq_true_eq] at hok
  have hR:=GU (v:=7*(i:Int)) ih (S8 (l:=l) ht)
  exact (hR.ok (by rw[hok.1.1])).1
def N5(n len i:Nat):Int:=if i=len then (n:Int)+1 else (i:Int)+1
theorem Us{l n:Nat}(hl:l<31):(aQ (2+(l:Int)) n).length=if n<l+2 then n else l+2:=by
 have e:(2+(l:Int)).toNat=l+2:=by omega
 unfold aQ
 rw[e]
 rw[List.length_append,List.length_map,List.length_range]
 by_cases h:n<l+2
 ·rw[if_pos h,if_neg (by omega)];simp;omega
 ·rw[if_neg h,if_pos (by omega)];simp;omega
theorem Tg{l n i:Nat}(h1:i<l+1)(h2:i<n):(aQ (2+(l:Int)) n)[i]? =some ⟨1,16,(i:Int)+1,0,7*(i:Int),0⟩:=by
 have e:(2+(l:Int)).toNat=l+2:=by omega
 unfold aQ
 rw[e]
 have h3:i<((List.range (min n (l+2-1))).map fun (j:Nat)=>(⟨1,16,(j:Int)+1,0,7*(j:Int),0⟩:Event)).length:=by rw[List.length_map,List.length_range];omega
 rw[List.getElem?_append_left h3,List.getElem?_map,List.getElem?_range (by omega)]
 rfl
theorem Ut{l n:Nat}(h:l+2≤n):(aQ (2+(l:Int)) n)[l+1]? =some ⟨2,16,2+(l:Int),n,0,0⟩:=by
 have e:(2+(l:Int)).toNat=l+2:=by omega
 unfold aQ
 rw[e,if_pos h,List.getElem?_append_right (by simp;omega)]
 have:l+1-((List.range (min n (l+2-1))).map fun (j:Nat)=>(⟨1,16,(j:Int)+1,0,7*(j:Int),0⟩:Event)).length=0:=by rw[List.length_map,List.length_range];omega
 rw[this];rfl
def aY:=And.intro @rN (And.intro @lx (And.intro @il (And.intro @gS (And.intro @lw (@eD)))))
theorem x8(t:Int)(limit:Int)(n:Int):WW ρ 3 ky dU (t,limit,n):=by
 simp only[dU,RR]
 unfold ky
 have e8:(1:Int).toNat=1:=rfl
 have e4:(4:Int).toNat=4:=rfl
 have k1:0≤u64 t % 4∧u64 t % 4<4:=⟨Int.emod_nonneg _ (by omega),Int.emod_lt_of_pos _ (by omega)⟩
 have k2:0≤u64 limit % 31∧u64 limit % 31<31:=⟨Int.emod_nonneg _ (by omega),Int.emod_lt_of_pos _ (by omega)⟩
 have k3:0≤u64 n % 50∧u64 n % 50<50:=⟨Int.emod_nonneg _ (by omega),Int.emod_lt_of_pos _ (by omega)⟩
 simp (disch:=first|omega|assumption|(constructor<;>first|assumption|omega)|simp only[LN];omega) only[↓SB,S1,↓aY]
 generalize u64 t % 4=T at k1 ⊢
 generalize u64 limit % 31=M at k2 ⊢
 generalize u64 n % 50=K at k3 ⊢
 obtain ⟨t,rfl⟩:=Int.eq_ofNat_of_zero_le k1.1
 obtain ⟨l,rfl⟩:=Int.eq_ofNat_of_zero_le k2.1
 obtain ⟨n,rfl⟩:=Int.eq_ofNat_of_zero_le k3.1
 have ht:t<4:=by omega
 have hl:l<31:=by omega
 have hn:n<50:=by omega
 refine SUB.v3 (L aN0.marks) (L aN0.topics) (L aN0.peers) ?_ ?_
 ·simp (disch:=first|omega|assumption|(constructor<;>first|assumption|omega)|simp only[LN];omega) only[↓SB,S1,↓aY,e8,e4,and_self]
  rfl
 obtain ⟨a1,a2,a3,a4,a5⟩:=Pz ht hl
 have b1:aA ⟨true,1,aN0.peers,aN0.topics,[],0,0,aN0.marks,[]⟩=false:=a4
 have hC:dl ⟨1,4,2,8,8,8,2+(l:Int)⟩ 0 ⟨true,1,aN0.peers,aN0.topics,[],0,0,aN0.marks,[]⟩ t=(aN1 t (2+(l:Int)),0):=Prod.ext rfl a1
 have hS:cN ⟨1,4,2,8,8,8,2+(l:Int)⟩ 0 (aN1 t (2+(l:Int))) t true 8=(aN2 t (2+(l:Int)),0):=Prod.ext rfl a2
 simp (disch:=first|omega|assumption|(constructor<;>first|assumption|omega)|simp only[LN];omega) only[↓SB,S1,↓aY,hC,hS]
 refine SUB.v1 (bb false) ?_ ?_
 ·simp (disch:=first|omega|assumption|(constructor<;>first|assumption|omega)|simp only[LN];omega) only[↓SB,S1,↓aY]
 simp (disch:=first|omega|assumption|(constructor<;>first|assumption|omega)|simp only[LN];omega) only[↓SB,S1,↓aY]
 refine aw.rule (α:=Nat) (fun i=>[I i,bb (aAt t (2+(l:Int)) i).up,I (aAt t (2+(l:Int)) i).inc,L (aAt t (2+(l:Int)) i).peers,L (aAt t (2+(l:Int)) i).topics,L (aAt t (2+(l:Int)) i).calls,I (aAt t (2+(l:Int)) i).pubs,I (aAt t (2+(l:Int)) i).asks,L (aAt t (2+(l:Int)) i).marks,L (aAt t (2+(l:Int)) i).taken]) (fun i=>i≤n) (fun i=>n-i) 0 rfl (by omega) (fun _=>rfl) ?_
 intro i hi
 simp only[app]
 have hwi:=Tp ht hl (i:=i) (by omega)
 have hli:aA (aAt t (2+(l:Int)) i)=false:=rj hwi
 have hok:=Vg ht hl (i:=i) (by omega)
 simp only[aOk,Bool.and_eq_true,decide_eq_true_eq] at hok
 obtain ⟨⟨o1,o2⟩,o3⟩:=hok
 have hP:bf ⟨1,4,2,8,8,8,2+(l:Int)⟩ 0 (aAt t (2+(l:Int)) i) t (7*(i:Int))=(aAt t (2+(l:Int)) (i+1),[],(i:Int)+1,0):=Prod.ext rfl o1
 have h7: ∀k,OP (.bin .mul) [I 7,I i] k=k (I (7*(i:Int))):=fun k=>aL (by simp only[ev,lN];rw[wr (by omega) (by omega)];rfl)
 simp (disch:=first|omega|assumption|(constructor<;>first|assumption|omega)|simp only[LN];omega) only[↓SB,S1,↓aY,h7,hP]
 refine ⟨fun h4=>⟨fun h=>absurd h (by simp),fun _=>⟨i+1,by simp,by omega,by omega⟩⟩,fun h4=>?_⟩
 have hie:i=n:=by omega
 subst hie
 clear hP h7 o1
 obtain ⟨k,x,hk,A⟩:=lQ hwi (S8 (l:=l) ht)
 obtain rfl:t=k:=by omega
 rw[A.at_] at o2 o3
 have hql:=Us (n:=i) hl
 rw[←o3] at hql
 have hrt:=S8 (l:=l) ht
 refine aw.rule (α:=Nat) (fun j=>[I (N5 i x.queue.length j),bb (jY (aAt t (2+(l:Int)) i) t x j).up,I (jY (aAt t (2+(l:Int)) i) t x j).inc,L (jY (aAt t (2+(l:Int)) i) t x j).peers,L (jY (aAt t (2+(l:Int)) i) t x j).topics,L (jY (aAt t (2+(l:Int)) i) t x j).calls,I (jY (aAt t (2+(l:Int)) i) t x j).pubs,I (jY (aAt t (2+(l:Int)) i) t x j).asks,L (jY (aAt t (2+(l:Int)) i) t x j).marks,L (jY (aAt t (2+(l:Int)) i) t x j).taken]) (fun j=>j≤x.queue.length) (fun j=>x.queue.length-j) 0 ?_ (by omega) (fun _=>rfl) ?_
 ·rw[MW A.get]
  have:N5 i x.queue.length 0=1:=by
   unfold N5
   split
   ·rename_i h;rw[←h] at hql;split at hql<;>omega
   ·rfl
  rw[this]
 intro j hj
 simp only[app]
 obtain ⟨g1,g2,g3,g4⟩:=K1 hwi A o2 j hj
 have g5:aA (jY (aAt t (2+(l:Int)) i) t x j)=false:=rj g1
 by_cases hje:j=x.queue.length
 ·have e1:N5 i x.queue.length j=i+1:=if_pos hje
  have hE:dL ⟨1,4,2,8,8,8,2+(l:Int)⟩ 0 (jY (aAt t (2+(l:Int)) i) t x j) t=(ba,cx,10):=by rw[hje];exact Pw hwi A o2
  rw[e1]
  simp (disch:=first|omega|assumption|(constructor<;>first|assumption|omega)|simp only[LN];omega) only[↓SB,S1,↓aY,hE]
  exact fun h=>absurd h (by omega)
 ·have e1:N5 i x.queue.length j=j+1:=if_neg hje
  have hlen:x.queue.length≤i:=by rw[hql];split<;>omega
  obtain ⟨y,hy⟩:=am (xs:=x.queue) (i:=j) (by omega)
  have hE:dL ⟨1,4,2,8,8,8,2+(l:Int)⟩ 0 (jY (aAt t (2+(l:Int)) i) t x j) t=(jY (aAt t (2+(l:Int)) i) t x (j+1),y,0):=MX hwi A o2 hy
  have h7: ∀k,OP (.bin .mul) [I 7,I j] k=k (I (7*(j:Int))):=fun k=>aL (by simp only[ev,lN];rw[wr (by omega) (by omega)];rfl)
  rw[e1]
  rw[o3] at hy
  by_cases hjl:j<l+1
  ·rw[Tg hjl (by omega)] at hy
   cases hy
   have hsub:(j:Int)+1-1=j:=by omega
   simp (disch:=first|omega|assumption|(constructor<;>first|assumption|omega)|simp only[LN];omega) only[↓SB,S1,↓aY,hE,hsub,h7]
   refine ⟨fun _=>?_,fun h=>absurd (show (j:Int)+1≤i by omega) h⟩
   refine SUB.v1 (bb false) ?_ ?_
   ·simp (disch:=first|omega|assumption|(constructor<;>first|assumption|omega)|simp only[LN];omega) only[↓SB,S1,↓aY]
   simp (disch:=first|omega|assumption|(constructor<;>first|assumption|omega)|simp only[LN];omega) only[↓SB,S1,↓aY,hsub,h7]
   refine ⟨fun _=>⟨j+1,?_,by omega,by omega⟩,fun h=>absurd (show (j:Int)+1<2+l by omega) h⟩
   have:N5 i x.queue.length (j+1)=(j:Int)+1+1:=by
    unfold N5
    split
    ·rename_i h;rw[←h] at hql;split at hql<;>omega
    ·omega
   rw[this]
  ·have hle2:x.queue.length≤l+2:=by rw[hql];split<;>omega
   have hjl2:j=l+1:=by omega
   have hll:l+2≤i:=by omega
   rw[hjl2,Ut hll] at hy
   cases hy
   simp (disch:=first|omega|assumption|(constructor<;>first|assumption|omega)|simp only[LN];omega) only[↓SB,S1,↓aY,hE,h7]
   refine ⟨fun _=>?_,fun h=>absurd (show (j:Int)+1≤i by omega) h⟩
   refine SUB.v1 (bb false) ?_ ?_
   ·simp (disch:=first|omega|assumption|(constructor<;>first|assumption|omega)|simp only[LN];omega) only[↓SB,S1,↓aY]
    exact fun h=>absurd (by omega) h
   simp (disch:=first|omega|assumption|(constructor<;>first|assumption|omega)|simp only[LN];omega) only[↓SB,S1,↓aY]
   refine ⟨fun h=>absurd h (by omega),fun _=>?_⟩
   refine ⟨j+1,?_,by omega,by omega⟩
   have:N5 i x.queue.length (j+1)=(i:Int)+1:=if_pos (by rw[hql];split<;>omega)
   rw[this]
end Go.Xt
end
section
set_option linter.unusedSimpArgs false
set_option linter.unusedVariables false
set_option maxRecDepth 100000
namespace Go.Xt
set_option linter.defProp false
set_option maxHeartbeats 4000000
theorem N6: ∀(l:List Item) (w:Int),eg w l=l.take (eg w l).length
 | [],w=>by simp[eg]
 | x::r,w=>by
  by_cases h:x.seq=w
  ·have e:eg w (x::r)=x::eg (w+1) r:=by rw[eg,if_pos h]
   rw[e,List.length_cons,List.take_succ_cons,←N6 r (w+1)]
  ·have e:eg w (x::r)=[]:=by rw[eg,if_neg h]
   rw[e];rfl
def ysL(s:Stream)(v:Int):List Item:=⟨s.want,v⟩::bu s.ahead (s.want+1)
def yR(c:Config)(s:Stream)(sub:Bool)(q:List Event)(v:Int)(i:Nat):Stream×List Event×List Item:=dD c sub (s,q,[]) ((ysL s v).take i)
structure YAt (c:Config) (s:Stream) (sub:Bool) (q:List Event) (v:Int) (i:Nat) (y:Item) (r:Stream×List Event×List Item):Prop where
 get:(ysL s v)[i]? =some y
 seq:y.seq=s.want+i
 val:val y.value=true
 lt:s.want+i<1073741824
 inv:SInv c r.1 r.2.1
 want:r.1.want=s.want+i
 epoch:r.1.epoch=s.epoch
 on:r.2.2.length=i
 next:yR c s sub q v (i+1)=eI c sub r y.value
theorem Vv{c:Config}{s:Stream}{sub:Bool}{q:List Event}{v:Int}(h:FOk c s q)(hv:val v=true)(hw:s.want<1073741824){i:Nat}(hi:i≤(bu s.ahead (s.want+1)).length) :
  ∃y,YAt c s sub q v i y (yR c s sub q v i):=by
 have H:=yz (sub:=sub) h hv hw
 have hys:JV s.want (ysL s v):=⟨rfl,hv,hw,H.seq⟩
 have hlen:(ysL s v).length=(bu s.ahead (s.want+1)).length+1:=rfl
 obtain ⟨y,hy⟩:=am (xs:=ysL s v) (i:=i) (by omega)
 have h1:=Bn hys hy
 have hf:=yy (c:=c) (sub:=sub) (l:=(ysL s v).take i) (r:=(s,q,[])) (Da i hys) h.inv
 have hl:((ysL s v).take i).length=i:=by rw[List.length_take];omega
 refine ⟨y,hy,h1.1,h1.2.1,h1.2.2,hf.1,?_,hf.2.2.2.1,?_,GP hy⟩
 ·have:=hf.2.1;rw[hl] at this;exact this
 ·show (dD c sub (s,q,[]) ((ysL s v).take i)).2.2.length=i
  rw[hf.2.2.2.2];simpa using hl
theorem Uu{s:Stream}{c:Config}{q:List Event}{v:Int}(h:FOk c s q){i:Nat}(hi:i≤(bu s.ahead (s.want+1)).length) :
  bu s.ahead (s.want+1)=eg (s.want+1) s.ahead∧qY s.ahead (s.want+1)=s.ahead.drop (bu s.ahead (s.want+1)).length ∧
  (∀y,s.ahead[i]? =some y→(y.seq=s.want+1+i↔i<(bu s.ahead (s.want+1)).length)) ∧
  (∀y,s.ahead[i]? =some y→i<(bu s.ahead (s.want+1)).length→(ysL s v)[i+1]? =some y)∧(bu s.ahead (s.want+1)).length≤s.ahead.length:=by
 have hb:=JU h.ahd
 have e1:uc s.ahead (s.want+1)=s.ahead:=D8 fun x hx=>by have:=(hb x hx).1;omega
 have e2:bu s.ahead (s.want+1)=eg (s.want+1) s.ahead:=by rw[bu,e1]
 have hr:=D9 (m:=s.want+c.window) (l:=s.ahead) (w:=s.want+1) (by rw[show s.want+1-1=s.want by omega];exact h.ahd)
 have ht:=N6 s.ahead (s.want+1)
 refine ⟨e2,by rw[qY,e1],?_,?_,by rw[e2];exact hr.2.2.2⟩
 ·intro y hy
  constructor
  ·intro hs
   apply Classical.byContradiction
   intro hlt
   have hie:i=(eg (s.want+1) s.ahead).length:=by rw[e2] at hi hlt;omega
   have:=hr.2.2.1 y (by rw[←hie,List.head?_drop,hy];simp)
   rw[←hie] at this
   exact this hs
  ·intro hlt
   rw[e2] at hlt
   have:(eg (s.want+1) s.ahead)[i]? =some y:=by rw[ht,List.getElem?_take,if_pos hlt];exact hy
   exact (Bn hr.1 this).1
 ·intro y hy hlt
  show (bu s.ahead (s.want+1))[i]? =some y
  rw[e2] at hlt ⊢
  rw[ht,List.getElem?_take,if_pos hlt];exact hy
def gM:=And.intro @oz (And.intro @bc (And.intro @vU (And.intro @LU (And.intro @IW (@LP)))))
theorem Kb(c:Config)(s:Stream)(sub:Bool)(q:List Event)(epoch:Int)(x:Item)(hp:bx c=true∧dK c s q=true∧epoch=s.epoch∧ep epoch=true∧x.seq=s.want∧s.want<1073741823∧val x.value=true)(hg:ag (gI (c,s,sub,q,epoch,x)).2.1):WW ρ 17 sO gI (c,s,sub,q,epoch,x):=by
 simp only[gI,RR] at hg ⊢
 unfold sO
 obtain ⟨hc,hf,rfl,he,hs,hw,hv⟩:=hp
 have hF:=Db hf he
 have hb:=K3 hF.inv
 have hal:=De hF
 have hcb:=dh hc
 have hkn:=hF.inv.known
 have hcw:=sQ hF.cw
 simp only[ag,bV,aR] at hg
 simp (disch:=first|omega|assumption|(constructor<;>first|assumption|omega)|simp only[LN];omega) only[↓SB,S1,↓gM]
 refine ⟨fun h=>absurd h (by omega),fun _=>?_⟩
 refine SUB.val [I s.epoch,I s.want,I s.known,L s.kept,L s.ahead] rfl ?_ ?_
 ·simp (disch:=first|omega|assumption|(constructor<;>first|assumption|omega)|simp only[LN];omega) only[↓SB,S1,↓gM]
  exact fun h=>absurd h (by omega)
 simp only[app]
 simp (disch:=first|omega|assumption|(constructor<;>first|assumption|omega)|simp only[LN];omega) only[↓SB,S1,↓gM]
 refine ⟨fun _=>?_,fun h=>absurd hs h⟩
 refine aw.rule (α:=Nat) (fun i=>[L (yR c s sub q x.value i).2.1,L q,L q,I (s.want+i),I ((ysL s x.value).getD i ⟨0,0⟩).value,I (yR c s sub q x.value i).1.want,I (yR c s sub q x.value i).1.known,L (yR c s sub q x.value i).1.kept,L (s.ahead.drop i),L (yR c s sub q x.value i).2.2]) (fun i=>i≤(bu s.ahead (s.want+1)).length) (fun i=>(bu s.ahead (s.want+1)).length-i) 0 (by show _=[L q,L q,L q,I (s.want+0),I x.value,I s.want,I s.known,L s.kept,L s.ahead,L []];rw[Int.add_zero];rfl) (by omega) (fun _=>rfl) ?_
 intro i hi
 simp only[app]
 obtain ⟨y,Y⟩:=Vv (sub:=sub) hF hv (by omega) hi
 obtain ⟨z1,z2,z3,z4,z5⟩:=Uu (v:=x.value) hF hi
 have hgd:(ysL s x.value).getD i ⟨0,0⟩=y:=by rw[List.getD_eq_getElem?_getD,Y.get];rfl
 rw[hgd]
 have hnx:=Y.next
 have hE:i=(bu s.ahead (s.want+1)).length→ce c s sub q x.value=({ (yR c s sub q x.value (i+1)).1 with ahead:=qY s.ahead (s.want+1) },(yR c s sub q x.value (i+1)).2):=by
  intro hie
  have:(ysL s x.value).take (i+1)=ysL s x.value:=List.take_of_length_le (by show (bu s.ahead (s.want+1)).length+1≤i+1;omega)
  unfold yR;rw[this];rfl
 rw[hnx] at hE
 generalize hr:yR c s sub q x.value i=r at Y hE hnx ⊢
 have hib:=K3 Y.inv
 have hrw:=Y.want
 have hro:=Y.on
 have hrk:=Y.inv.known
 have hlt:=Y.lt
 have hp1:r.1.kept.length≤1000∧0≤c.keep∧c.keep≤1000:=by omega
 have hp2:bh r.2.1 c.queue=true∧ec ⟨1,s.epoch,s.want+i,0,y.value,0⟩=true:=by
  refine ⟨Y.inv.queue,?_⟩
  unfold ec
  rw[if_pos rfl,he,Y.val]
  simp[cnt,rng];omega
 simp (disch:=first|omega|assumption|(constructor<;>first|assumption|omega)|simp only[LN];omega) only[↓SB,S1,↓gM,↓dt (a_seq:=s.want+i)]
 refine SUB.v1 (L (eI c sub r y.value).2.1) ?_ ?_
 ·cases hsub:sub
  ·simp (disch:=first|omega|assumption|(constructor<;>first|assumption|omega)|simp only[LN];omega) only[↓SB,S1,↓gM]
   rfl
  ·simp (disch:=first|omega|assumption|(constructor<;>first|assumption|omega)|simp only[LN];omega) only[↓SB,S1,↓gM]
   simp[eI,Y.epoch,hrw]
 have hfin:i=(bu s.ahead (s.want+1)).length→[I s.epoch,I (r.1.want+1),I (max r.1.known (r.1.want+1)),L (qX r.1.kept r.1.want c.keep y.value),L (s.ahead.drop i),L (eI c sub r y.value).2.1,L (r.2.2++[(⟨s.want+i,y.value⟩:Item)])]=[I (ce c s sub q x.value).1.epoch,I (ce c s sub q x.value).1.want,I (ce c s sub q x.value).1.known,L (ce c s sub q x.value).1.kept,L (ce c s sub q x.value).1.ahead,L (ce c s sub q x.value).2.1,L (ce c s sub q x.value).2.2]:=by
  intro hie
  rw[hE hie,z2,←hie]
  simp[eI,Y.epoch,hrw]
 refine ⟨fun h1=>hfin (by simp at h1;omega),fun h1=>?_⟩
 have hil:(i:Int)<s.ahead.length:=by simp at h1;omega
 obtain ⟨u,hu⟩:=am hil
 have hu0:(s.ahead.drop i)[0]? =some u:=by simpa using hu
 have huc: ∀j,(L (s.ahead.drop i)).cellAt (I 0) j=look (Row.row u) j:=fun j=>ab (i:=0) hu0
 have hdl:0<(s.ahead.drop i).length:=by simp;omega
 have h3:=z3 u hu
 simp (disch:=first|omega|assumption|(constructor<;>first|assumption|omega)|simp only[LN];omega) only[↓SB,S1,↓gM,huc]
 refine ⟨fun h4=>hfin ?_,fun h4=>?_⟩
 ·have: ¬u.seq=s.want+1+i:=fun h5=>h4 (by omega)
  rw[h3] at this;omega
 ·have hlt2:i<(bu s.ahead (s.want+1)).length:=h3.1 (by omega)
  have h5:=z4 u hu hlt2
  refine ⟨i+1,?_,by omega,by omega⟩
  rw[hnx,List.getD_eq_getElem?_getD,h5]
  simp[eI,hrw]
  omega
def oT:=And.intro @Cw (And.intro @IX (@F2))
theorem Dj(c:Config)(t:Int)(self:Int)(x:Topic)(value:Int)(hp:ua c t self x=0∧val value=true)(hg:ag (dT (c,t,self,x,value)).2.1):WW ρ 26 oP dT (c,t,self,x,value):=by
 simp only[dT,RR] at hg ⊢
 unfold oP
 obtain ⟨hp,hv⟩:=hp
 obtain ⟨h1,h2,h3⟩:=uP hp
 have hl:=py h1 h3
 have hb:=OC h3
 have hpl:=uL h1 h2
 have hne:cv x=false∧isN self=true∧0≤x.top∧x.top≤1073741824:=⟨hl,hpl.2.1,hb.1,hb.2.1⟩
 by_cases he:(ak self x).2=0
 ·have hB:=zC hp he
  by_cases hw:1073741823≤(ak self x).1.stream.want
  ·rw[Av he hw]
   simp (disch:=first|omega|assumption|(constructor<;>first|assumption|omega)|simp only[LN];omega) only[↓SB,S1,↓oT,he]
   simp[fF,L,hw]
  ·rw[GS he hw]
   have hon:=K6 (sub:=(ak self x).1.sub) hB.flow hv (by omega)
   have hkl:=yA hB.ok
   have hpf:bx c=true∧dK c (ak self x).1.stream (ak self x).1.queue=true∧(ak self x).1.stream.epoch=(ak self x).1.stream.epoch∧ep (ak self x).1.stream.epoch=true∧(ak self x).1.stream.want=(ak self x).1.stream.want∧(ak self x).1.stream.want<1073741823∧val value=true:=⟨h1,hB.flow.flow,rfl,by rw[hB.epoch];exact hB.ep,rfl,by omega,hv⟩
   simp (disch:=first|omega|assumption|(constructor<;>first|assumption|omega)|simp only[LN];omega) only[↓SB,S1,↓oT,he]
   exact fun h=>absurd h hw
 ·rw[Df he]
  simp (disch:=first|omega|assumption|(constructor<;>first|assumption|omega)|simp only[LN];omega) only[↓SB,S1,↓oT,he]
  simp[fF,L]
end Go.Xt
end
section
set_option linter.unusedSimpArgs false
set_option linter.unusedVariables false
set_option maxRecDepth 100000
namespace Go.Xt
set_option linter.defProp false
set_option maxHeartbeats 4000000
def gT:=And.intro @jx (And.intro @vP (And.intro @Cx (And.intro @F0 (And.intro @xY (@ye)))))
theorem B7(c:Config)(self:Int)(n:Node)(t:Int)(value:Int)(hp:aA n=false∧bt c self n t=0∧val value=true)(hg:ag (dx (c,self,n,t,value)).2.1):WW ρ 19 nv dx (c,self,n,t,value):=by
 simp only[dx,RR] at hg ⊢
 unfold nv
 obtain ⟨hp,ht,hv⟩:=hp
 simp only[ag,bV,aR] at hg
 generalize hE:fG c self n t value=q
 unfold fG at hE
 have hhb:=oQ hp
 obtain ⟨h1,h2⟩:=mz ht
 obtain ⟨k,x,rfl,A⟩:=lQ h1 h2
 have hlt:=A.lt
 have htw:=yD h1 h2 A
 obtain ⟨hc,hs,hu,H⟩:=ca h1
 have hpb:=aZ H.pubs
 have hsb:=aZ hs
 have hpl:=H.pl
 have hplb:=re H.peers
 have hit:=(RX h1 h2).2.2
 have hcz:=CY H.peers hsb.1 (by omega)
 have hcz2:=vq hcz
 have hlen:(iC n.peers self).length≤1000:=by have:=MK (self:=self) n.peers 0;unfold iC;omega
 have hcn:isT (k:Int)=true∧AJ (iC n.peers self) self=0:=⟨hit,hcz⟩
 have hoN:isT (k:Int)=true∧(iC n.peers self).all isN=true:=⟨hit,hcz2.1.1⟩
 have hoR:=Ta hit hcz2.1.1 hcz2.2.1.2.2
 have hta:ua c k self x=0∧val value=true:=⟨htw,hv⟩
 have hao:=sZ (v:=value) htw hv
 simp (disch:=first|omega|assumption|(constructor<;>first|assumption|omega)|simp only[LN];omega) only[↓SB,S1,↓gT]
 refine ⟨fun h4=>?_,fun h4=>?_⟩
 ·rw[if_pos h4] at hE;rw[←hE];simp[ba,L]
 rw[if_neg h4] at hE
 unfold GA at hE
 simp only[A.at_] at hE
 refine ⟨fun h5=>?_,fun h5=>?_⟩
 ·have h5':Gz self k (iC n.peers self)=true:=by simp[Gz,hoR,h5]
  rw[if_pos h5'] at hE
  refine SUB.val [bb x.made,bb x.sub,I x.top,I x.root,I x.parent,I x.asked,I x.other,I x.age,L x.path,L x.kids,I x.stream.epoch,I x.stream.want,I x.stream.known,L x.stream.kept,L x.stream.ahead,L x.queue,bb (au c k self x value).1.made,bb (au c k self x value).1.sub,I (au c k self x value).1.top,I (au c k self x value).1.root,I (au c k self x value).1.parent,I (au c k self x value).1.asked,I (au c k self x value).1.other,I (au c k self x value).1.age,L (au c k self x value).1.path,L (au c k self x value).1.kids,I (au c k self x value).1.stream.epoch,I (au c k self x value).1.stream.want,I (au c k self x value).1.stream.known,L (au c k self x value).1.stream.kept,L (au c k self x value).1.stream.ahead,L (au c k self x value).1.queue,L (au c k self x value).2.1,I (au c k self x value).2.2,L (au c k self x value).2.1,I (au c k self x value).2.2,bb (au c k self x value).1.made,bb (au c k self x value).1.sub,I (au c k self x value).1.top,I (au c k self x value).1.root,I (au c k self x value).1.parent,I (au c k self x value).1.asked,I (au c k self x value).1.other,I (au c k self x value).1.age,L (au c k self x value).1.path,L (au c k self x value).1.kids,I (au c k self x value).1.stream.epoch,I (au c k self x value).1.stream.want,I (au c k self x value).1.stream.known,L (au c k self x value).1.stream.kept,L (au c k self x value).1.stream.ahead,L (au c k self x value).1.queue] rfl ?_ ?_
  ·simp (disch:=first|omega|assumption|(constructor<;>first|assumption|omega)|simp only[LN];omega) only[↓SB,S1,↓gT,ab A.get]
  simp only[app]
  have hmp:=yE (n:=bp { n with pubs:=n.pubs+1 } k (au c k self x value).1) (l:=(au c k self x value).2.1) hhb.1 hao.1 hao.2
  have hmc:=Aw (self:=self) (n:=bp { n with pubs:=n.pubs+1 } k (au c k self x value).1) (m:={ n with pubs:=n.pubs+1 }) rfl rfl (au c k self x value).2.1
  simp (disch:=first|omega|assumption|(constructor<;>first|assumption|omega)|simp only[LN];omega) only[↓SB,S1,↓gT]
  refine ⟨fun h6=>?_,fun h6=>?_⟩
  ·rw[if_neg h6] at hE;rw[←hE];simp[ba,L]
  ·rw[if_pos h6] at hE
   rw[Pt A.get]
   rw[←hE]
   simp only[bp,Int.toNat_natCast] at hmp hmc ⊢
   simp (disch:=first|omega|assumption|(constructor<;>first|assumption|omega)|simp only[LN];omega) only[↓SB,S1,↓gT]
   rw[hmc]
 ·have h5': ¬Gz self k (iC n.peers self)=true:=by simp[Gz,hoR,h5]
  rw[if_neg h5'] at hE
  rw[←hE]
  have hmp:=yE (n:={ n with pubs:=n.pubs+1 }) (l:=[Lx self n k value]) hhb.1 (by simp) (by intro m hm;rw[List.mem_singleton] at hm;subst hm;exact ⟨rfl,rfl⟩)
  simp only[Lx,lL] at hmp ⊢
  simp (disch:=first|omega|assumption|(constructor<;>first|assumption|omega)|simp only[LN];omega) only[↓SB,S1,↓gT,↓sW]
theorem FP(c:Config)(self:Int)(n:Node)(t:Int)(made:Bool)(hp:aA n=false)(hg:ag (fu (c,self,n,t,made)).2.1):WW ρ 19 qF fu (c,self,n,t,made):=by
 simp only[fu,RR] at hg ⊢
 unfold qF
 simp only[ag,bV,aR] at hg
 simp (disch:=first|omega|assumption|(constructor<;>first|assumption|omega)|simp only[LN];omega) only[↓SB,S1,↓bD]
 by_cases h:ax c self n=0
 ·obtain ⟨hc,hs,hu,H⟩:=ca h
  have hcb:=dh hc
  by_cases ht:rng t 0 (c.topics-1)=true
  ·have htb:=aZ ht
   obtain ⟨k,x,rfl,A⟩:=lQ h ht
   have hlt:=A.lt
   refine SUB.v1 (bb false) ?_ ?_
   ·simp (disch:=first|omega|assumption|(constructor<;>first|assumption|omega)|simp only[LN];omega) only[↓SB,S1,↓bD,h]
    exact ⟨fun h=>absurd h (by omega),fun _=>by rw[decide_eq_false (by omega)]⟩
   simp (disch:=first|omega|assumption|(constructor<;>first|assumption|omega)|simp only[LN];omega) only[↓SB,S1,↓bD,h,ab A.get]
   cases made
   ·simp (disch:=first|omega|assumption|(constructor<;>first|assumption|omega)|simp only[LN];omega) only[↓SB,S1,↓bD,h]
    rw[pB h ht]
   ·simp (disch:=first|omega|assumption|(constructor<;>first|assumption|omega)|simp only[LN];omega) only[↓SB,S1,↓bD,h,ab A.get]
    refine ⟨fun hm=>?_,fun hm=>?_⟩
    ·rw[o4 h ht (by rw[A.at_];exact hm)]
    ·rw[mB h ht (by rw[A.at_];exact hm)]
  ·have e1:bt c self n t=1:=by unfold bt;rw[if_pos h,if_neg ht]
   have e2:aH c self n t=1:=by unfold aH;rw[if_neg (by rw[e1];decide),e1]
   have hb:t<0∨c.topics≤t:=by
    apply Classical.byContradiction
    intro hn
    exact ht (by simp[rng];omega)
   refine SUB.v1 (bb true) ?_ ?_
   ·simp (disch:=first|omega|assumption|(constructor<;>first|assumption|omega)|simp only[LN];omega) only[↓SB,S1,↓bD,h]
    exact fun h=>by rw[decide_eq_true (by omega)]
   rw[e1,e2]
   simp (disch:=first|omega|assumption|(constructor<;>first|assumption|omega)|simp only[LN];omega) only[↓SB,S1,↓bD,Int.reduceEq]
   simp
 ·have e1:bt c self n t=ax c self n:=by unfold bt;rw[if_neg h]
  have e2:aH c self n t=ax c self n:=by unfold aH;rw[if_neg (by rw[e1];exact h),e1]
  refine SUB.v1 (bb false) ?_ ?_
  ·simp (disch:=first|omega|assumption|(constructor<;>first|assumption|omega)|simp only[LN];omega) only[↓SB,S1,↓bD,h]
  rw[e1,e2]
  simp (disch:=first|omega|assumption|(constructor<;>first|assumption|omega)|simp only[LN];omega) only[↓SB,S1,↓bD,h]
  simp
end Go.Xt
end
section
set_option linter.unusedSimpArgs false
set_option linter.unusedVariables false
set_option maxRecDepth 100000
namespace Go.Xt
set_option linter.defProp false
set_option maxHeartbeats 4000000
theorem Qu{c:Config}{self:Int}{n:Node}{t:Int}(h: ¬bt c self n t=0):dl c self n t=(ba,bt c self n t):=by unfold dl;rw[if_neg h]
theorem Dk{c:Config}{self:Int}{n:Node}{t v:Int}(h: ¬aH c self n t=0):bf c self n t v=(ba,[],0,aH c self n t):=by unfold bf;rw[if_neg h]
theorem Dl{c:Config}{self:Int}{n:Node}{t v:Int}(h: ¬aH c self n t=0):cy c self n t v=(ba,[],0,aH c self n t):=by unfold cy;rw[if_neg h]
theorem GV{c:Config}{self:Int}{n:Node}{t v:Int}(h: ¬(aN c self n t v).2.2.2=0):aN c self n t v=(ba,[],0,(aN c self n t v).2.2.2):=by
 unfold aN at h ⊢
 split
 ·rename_i h1;rw[if_pos h1] at h
  split
  ·rename_i h2;rw[if_pos h2] at h
   split
   ·rename_i h3;rw[if_pos h3] at h;exact absurd rfl h
   ·rfl
  ·rfl
 ·rfl
theorem OL{c:Config}{self:Int}{n:Node}{t v:Int}(h:aH c self n t=0):cy c self n t v=((aN c self n t v).1,kI self (aN c self n t v).1 (aN c self n t v).2.1,(aN c self n t v).2.2.1,(aN c self n t v).2.2.2):=by
 unfold cy
 rw[if_pos h]
 by_cases h0:(aN c self n t v).2.2.2=0
 ·rw[if_pos h0,h0]
 ·rw[if_neg h0]
  have:=GV h0
  rw[this];rfl
theorem Ax{c:Config}{self:Int}{n:Node}{t v:Int}:(aN c self n t v).2.1.length≤1000∧(aN c self n t v).1.peers.length≤12∧ ∀m∈(aN c self n t v).2.1,m.path.length≤30∧m.todo.length≤30:=by
 by_cases h0:(aN c self n t v).2.2.2=0
 ·exact x4 h0
 ·rw[GV h0];simp[ba]
def aa:=And.intro @fv (And.intro @lx (And.intro @il (And.intro @jx (And.intro @nK (And.intro @gS (And.intro @lw (And.intro @eD (And.intro @jF (And.intro @tc (And.intro @F3 (And.intro @ij (And.intro @AO (And.intro @IQ (And.intro @EY (@vV)))))))))))))))
theorem x9(c:Config)(self:Int)(n:Node)(t:Int)(value:Int)(hg:ag (cY (c,self,n,t,value)).2.1):WW ρ 19 kz cY (c,self,n,t,value):=by
 simp only[cY,RR] at hg ⊢
 unfold kz
 simp only[ag,bV,aR] at hg
 by_cases hh0:aA n=true
 ·rw[fv,hh0,jM]
 have hh:aA n=false:=by simpa using hh0
 rw[fv,hh,bn]
 by_cases hw:bt c self n t=0
 ·obtain ⟨h1,h2⟩:=mz hw
  obtain ⟨k,x,rfl,A⟩:=lQ h1 h2
  have hlt:=A.lt
  have hql:=kD (sX A.ok)
  cases hmd:x.made
  ·have hm:=o4 h1 h2 (by rw[A.at_];exact hmd)
   have e1:dl c self n k=(bp n k { x with made:=true },0):=by unfold dl;rw[if_pos hw,A.at_,if_neg (by rw[hmd];simp)]
   have e2: ∀b why,cN c self n k b why=(ba,aH c self n k):=fun b why=>JZ (by rw[hm];decide)
   have e3:=Dk (v:=value) (show ¬aH c self n k=0 by rw[hm];decide)
   have e4:=Dl (v:=value) (show ¬aH c self n k=0 by rw[hm];decide)
   have e5:=K0 (show ¬aH c self n k=0 by rw[hm];decide)
   simp (disch:=first|omega|assumption|(constructor<;>first|assumption|omega)|simp only[LN];omega) only[↓SB,S1,↓aa,hh,e1,e2,e3,e4,e5,hm,hw]
   refine SUB.v1 (bb false) ?_ ?_
   ·simp (disch:=first|omega|assumption|(constructor<;>first|assumption|omega)|simp only[LN];omega) only[↓SB,S1,↓aa,hw,ab A.get,hmd]
   simp (disch:=first|omega|assumption|(constructor<;>first|assumption|omega)|simp only[LN];omega) only[↓SB,S1,↓aa]
   refine SUB.v1 (I 0) ?_ ?_
   ·simp (disch:=first|omega|assumption|(constructor<;>first|assumption|omega)|simp only[LN];omega) only[↓SB,S1,↓aa]
   simp (disch:=first|omega|assumption|(constructor<;>first|assumption|omega)|simp only[LN];omega) only[↓SB,S1,↓aa,↓bk A.get (j:=0) (v:=bb true) (y:={ x with made:=true }) rfl]
   refine SUB.v1 (bb false) ?_ ?_
   ·simp (disch:=first|omega|assumption|(constructor<;>first|assumption|omega)|simp only[LN];omega) only[↓SB,S1,↓aa]
    simp[bp]
   simp (disch:=first|omega|assumption|(constructor<;>first|assumption|omega)|simp only[LN];omega) only[↓SB,S1,↓aa,Int.reduceEq]
   simp[ba,cx]
  ·have hmw:=mB h1 h2 (by rw[A.at_];exact hmd)
   have e1:dl c self n k=(ba,8):=by unfold dl;rw[if_pos hw,A.at_,if_pos hmd]
   have e4:=OL (v:=value) hmw
   have hgs:(n.topics.set k { x with sub:= !x.sub })[k]? =some { x with sub:= !x.sub }:=by simp[hlt]
   have hsl:(n.topics.set k { x with sub:= !x.sub }).length=n.topics.length:=by simp
   simp (disch:=first|omega|assumption|(constructor<;>first|assumption|omega)|simp only[LN];omega) only[↓SB,S1,↓aa,hh,e1,e4,hmw,hw]
   refine SUB.v1 (bb true) ?_ ?_
   ·simp (disch:=first|omega|assumption|(constructor<;>first|assumption|omega)|simp only[LN];omega) only[↓SB,S1,↓aa,hw,ab A.get,hmd]
   simp (disch:=first|omega|assumption|(constructor<;>first|assumption|omega)|simp only[LN];omega) only[↓SB,S1,↓aa]
   refine SUB.v1 (I 8) ?_ ?_
   ·simp (disch:=first|omega|assumption|(constructor<;>first|assumption|omega)|simp only[LN];omega) only[↓SB,S1,↓aa]
   simp (disch:=first|omega|assumption|(constructor<;>first|assumption|omega)|simp only[LN];omega) only[↓SB,S1,↓aa,Int.reduceEq]
   refine SUB.v1 (bb false) ?_ ?_
   ·simp (disch:=first|omega|assumption|(constructor<;>first|assumption|omega)|simp only[LN];omega) only[↓SB,S1,↓aa]
    simp[ba]
   simp (disch:=first|omega|assumption|(constructor<;>first|assumption|omega)|simp only[LN];omega) only[↓SB,S1,↓aa,ab A.get]
   refine SUB.v2 (bb (!x.sub)) (L (n.topics.set k { x with sub:= !x.sub,queue:=[] })) ?_ ?_
   ·simp (disch:=first|omega|assumption|(constructor<;>first|assumption|omega)|simp only[LN];omega) only[↓SB,S1,↓aa,ab A.get,↓bk A.get (j:=1) (v:=bb (!x.sub)) (y:={ x with sub:= !x.sub }) rfl,↓bk hgs (j:=15) (v:=.list []) (y:={ x with sub:= !x.sub,queue:=[] }) rfl]
    rw[List.set_set]
   refine ⟨fun hs=>?_,fun hs=>?_⟩
   ·have t1:cN c self n k true 8=(ba,8):=JY hmw (by rw[A.at_];exact hs)
    have t2:cN c self n k false 7=(bp n k { x with sub:=false,queue:=[] },0):=by rw[JX hmw (by rw[A.at_,hs];simp),A.at_]
    refine SUB.v1 (bb false) ?_ ?_
    ·simp (disch:=first|omega|assumption|(constructor<;>first|assumption|omega)|simp only[LN];omega) only[↓SB,S1,↓aa,t1,t2]
     simp[ba,bp,hs]
    cases hv:val value
    ·have e3:bf c self n k value=(ba,[],0,1):=by unfold bf;rw[if_pos hmw,if_neg (by rw[hv];simp)]
     have e4':aN c self n k value=(ba,[],0,1):=by unfold aN;rw[if_pos h1,if_neg (by rw[hv];simp)]
     simp (disch:=first|omega|assumption|(constructor<;>first|assumption|omega)|simp only[LN];omega) only[↓SB,S1,↓aa,hv,e3,e4']
     refine SUB.v1 (bb false) ?_ ?_
     ·have hmz:kI self ba []=[]:=rfl
      simp (disch:=first|omega|assumption|(constructor<;>first|assumption|omega)|simp only[LN];omega) only[↓SB,S1,↓aa,e3,e4',hmz]
      simp[ba]
     simp (disch:=first|omega|assumption|(constructor<;>first|assumption|omega)|simp only[LN];omega) only[↓SB,S1,↓aa]
     cases hq:x.queue with
     | nil =>
      have e5:dL c self n k=(ba,cx,10):=uR hmw (by rw[A.at_];exact hq)
      simp (disch:=first|omega|assumption|(constructor<;>first|assumption|omega)|simp only[LN];omega) only[↓SB,S1,↓aa,e5,hq,ab A.get]
      simp[ba,cx]
     | cons y r =>
      have e5:dL c self n k=(bp n k { x with queue:=r },y,0):=by rw[rk hmw (by rw[A.at_];exact hq),A.at_]
      have hy0:(y::r)[0]? =some y:=rfl
      have hyc: ∀j,(L (y::r)).cellAt (I 0) j=look (Row.row y) j:=fun j=>ab (i:=0) hy0
      have hyl:List.drop (Int.toNat 1) (y::r)=r:=rfl
      simp (disch:=first|omega|assumption|(constructor<;>first|assumption|omega)|simp only[LN];omega) only[↓SB,S1,↓aa,e5,hq,ab A.get,hyc,hyl,↓bk A.get (j:=15) (v:=L r) (y:={ x with queue:=r }) rfl]
      simp[bp]
      try omega
    ·have e3:bf c self n k value=fG c self n k value:=by unfold bf;rw[if_pos hmw,if_pos hv]
     have hpp:aA n=false∧bt c self n k=0∧val value=true:=⟨hh,hw,hv⟩
     have hpb:ax c self n=0∧rng (k:Int) 0 (c.topics-1)=true∧val value=true:=⟨h1,h2,hv⟩
     have hbm:=Ax (c:=c) (self:=self) (n:=n) (t:=k) (v:=value)
     simp (disch:=first|omega|assumption|(constructor<;>first|assumption|omega)|simp only[LN];omega) only[↓SB,S1,↓aa,hv,e3]
     refine SUB.v1 (bb false) ?_ ?_
     ·simp (disch:=first|omega|assumption|(constructor<;>first|assumption|omega)|simp only[LN];omega) only[↓SB,S1,↓aa,e3]
      try simp
     simp (disch:=first|omega|assumption|(constructor<;>first|assumption|omega)|simp only[LN];omega) only[↓SB,S1,↓aa]
     refine SUB.v1 (bb false) ?_ ?_
     ·simp (disch:=first|omega|assumption|(constructor<;>first|assumption|omega)|simp only[LN];omega) only[↓SB,S1,↓aa]
      try simp
     simp (disch:=first|omega|assumption|(constructor<;>first|assumption|omega)|simp only[LN];omega) only[↓SB,S1,↓aa]
     cases hq:x.queue with
     | nil =>
      have e5:dL c self n k=(ba,cx,10):=uR hmw (by rw[A.at_];exact hq)
      simp (disch:=first|omega|assumption|(constructor<;>first|assumption|omega)|simp only[LN];omega) only[↓SB,S1,↓aa,e5,hq,ab A.get]
      simp[ba,cx]
     | cons y r =>
      have e5:dL c self n k=(bp n k { x with queue:=r },y,0):=by rw[rk hmw (by rw[A.at_];exact hq),A.at_]
      have hy0:(y::r)[0]? =some y:=rfl
      have hyc: ∀j,(L (y::r)).cellAt (I 0) j=look (Row.row y) j:=fun j=>ab (i:=0) hy0
      have hyl:List.drop (Int.toNat 1) (y::r)=r:=rfl
      simp (disch:=first|omega|assumption|(constructor<;>first|assumption|omega)|simp only[LN];omega) only[↓SB,S1,↓aa,e5,hq,ab A.get,hyc,hyl,↓bk A.get (j:=15) (v:=L r) (y:={ x with queue:=r }) rfl]
      simp[bp]
      try omega
   ·have t1:cN c self n k false 7=(ba,7):=JY hmw (by rw[A.at_];exact hs)
    have t2:cN c self n k true 8=(bp n k { x with sub:=true,queue:=[] },0):=by rw[JX hmw (by rw[A.at_,hs];simp),A.at_]
    refine SUB.v1 (bb false) ?_ ?_
    ·simp (disch:=first|omega|assumption|(constructor<;>first|assumption|omega)|simp only[LN];omega) only[↓SB,S1,↓aa,t1,t2]
     simp[ba,bp,hs]
    cases hv:val value
    ·have e3:bf c self n k value=(ba,[],0,1):=by unfold bf;rw[if_pos hmw,if_neg (by rw[hv];simp)]
     have e4':aN c self n k value=(ba,[],0,1):=by unfold aN;rw[if_pos h1,if_neg (by rw[hv];simp)]
     simp (disch:=first|omega|assumption|(constructor<;>first|assumption|omega)|simp only[LN];omega) only[↓SB,S1,↓aa,hv,e3,e4']
     refine SUB.v1 (bb false) ?_ ?_
     ·have hmz:kI self ba []=[]:=rfl
      simp (disch:=first|omega|assumption|(constructor<;>first|assumption|omega)|simp only[LN];omega) only[↓SB,S1,↓aa,e3,e4',hmz]
      simp[ba]
     simp (disch:=first|omega|assumption|(constructor<;>first|assumption|omega)|simp only[LN];omega) only[↓SB,S1,↓aa]
     cases hq:x.queue with
     | nil =>
      have e5:dL c self n k=(ba,cx,10):=uR hmw (by rw[A.at_];exact hq)
      simp (disch:=first|omega|assumption|(constructor<;>first|assumption|omega)|simp only[LN];omega) only[↓SB,S1,↓aa,e5,hq,ab A.get]
      simp[ba,cx]
     | cons y r =>
      have e5:dL c self n k=(bp n k { x with queue:=r },y,0):=by rw[rk hmw (by rw[A.at_];exact hq),A.at_]
      have hy0:(y::r)[0]? =some y:=rfl
      have hyc: ∀j,(L (y::r)).cellAt (I 0) j=look (Row.row y) j:=fun j=>ab (i:=0) hy0
      have hyl:List.drop (Int.toNat 1) (y::r)=r:=rfl
      simp (disch:=first|omega|assumption|(constructor<;>first|assumption|omega)|simp only[LN];omega) only[↓SB,S1,↓aa,e5,hq,ab A.get,hyc,hyl,↓bk A.get (j:=15) (v:=L r) (y:={ x with queue:=r }) rfl]
      simp[bp]
      try omega
    ·have e3:bf c self n k value=fG c self n k value:=by unfold bf;rw[if_pos hmw,if_pos hv]
     have hpp:aA n=false∧bt c self n k=0∧val value=true:=⟨hh,hw,hv⟩
     have hpb:ax c self n=0∧rng (k:Int) 0 (c.topics-1)=true∧val value=true:=⟨h1,h2,hv⟩
     have hbm:=Ax (c:=c) (self:=self) (n:=n) (t:=k) (v:=value)
     simp (disch:=first|omega|assumption|(constructor<;>first|assumption|omega)|simp only[LN];omega) only[↓SB,S1,↓aa,hv,e3]
     refine SUB.v1 (bb false) ?_ ?_
     ·simp (disch:=first|omega|assumption|(constructor<;>first|assumption|omega)|simp only[LN];omega) only[↓SB,S1,↓aa,e3]
      try simp
     simp (disch:=first|omega|assumption|(constructor<;>first|assumption|omega)|simp only[LN];omega) only[↓SB,S1,↓aa]
     refine SUB.v1 (bb false) ?_ ?_
     ·simp (disch:=first|omega|assumption|(constructor<;>first|assumption|omega)|simp only[LN];omega) only[↓SB,S1,↓aa]
      try simp
     simp (disch:=first|omega|assumption|(constructor<;>first|assumption|omega)|simp only[LN];omega) only[↓SB,S1,↓aa]
     cases hq:x.queue with
     | nil =>
      have e5:dL c self n k=(ba,cx,10):=uR hmw (by rw[A.at_];exact hq)
      simp (disch:=first|omega|assumption|(constructor<;>first|assumption|omega)|simp only[LN];omega) only[↓SB,S1,↓aa,e5,hq,ab A.get]
      simp[ba,cx]
     | cons y r =>
      have e5:dL c self n k=(bp n k { x with queue:=r },y,0):=by rw[rk hmw (by rw[A.at_];exact hq),A.at_]
      have hy0:(y::r)[0]? =some y:=rfl
      have hyc: ∀j,(L (y::r)).cellAt (I 0) j=look (Row.row y) j:=fun j=>ab (i:=0) hy0
      have hyl:List.drop (Int.toNat 1) (y::r)=r:=rfl
      simp (disch:=first|omega|assumption|(constructor<;>first|assumption|omega)|simp only[LN];omega) only[↓SB,S1,↓aa,e5,hq,ab A.get,hyc,hyl,↓bk A.get (j:=15) (v:=L r) (y:={ x with queue:=r }) rfl]
      simp[bp]
      try omega
 ·have hm:aH c self n t=bt c self n t:=by unfold aH;rw[if_neg hw]
  have e1:=Qu hw
  have e2: ∀b why,cN c self n t b why=(ba,aH c self n t):=fun b why=>JZ (by rw[hm];exact hw)
  have e3:=Dk (v:=value) (show ¬aH c self n t=0 by rw[hm];exact hw)
  have e4:=Dl (v:=value) (show ¬aH c self n t=0 by rw[hm];exact hw)
  have e5:=K0 (show ¬aH c self n t=0 by rw[hm];exact hw)
  simp (disch:=first|omega|assumption|(constructor<;>first|assumption|omega)|simp only[LN];omega) only[↓SB,S1,↓aa,hh,e1,e2,e3,e4,e5,hm]
  refine SUB.v1 (bb false) ?_ ?_
  ·simp (disch:=first|omega|assumption|(constructor<;>first|assumption|omega)|simp only[LN];omega) only[↓SB,S1,↓aa,hw]
  simp (disch:=first|omega|assumption|(constructor<;>first|assumption|omega)|simp only[LN];omega) only[↓SB,S1,↓aa,hw]
  refine SUB.v1 (I (bt c self n t)) ?_ ?_
  ·simp (disch:=first|omega|assumption|(constructor<;>first|assumption|omega)|simp only[LN];omega) only[↓SB,S1,↓aa]
  simp (disch:=first|omega|assumption|(constructor<;>first|assumption|omega)|simp only[LN];omega) only[↓SB,S1,↓aa,hw]
  refine SUB.v1 (bb false) ?_ ?_
  ·simp (disch:=first|omega|assumption|(constructor<;>first|assumption|omega)|simp only[LN];omega) only[↓SB,S1,↓aa,hw]
   simp[ba]
  simp (disch:=first|omega|assumption|(constructor<;>first|assumption|omega)|simp only[LN];omega) only[↓SB,S1,↓aa,hw]
  simp[ba,cx]
end Go.Xt
end
