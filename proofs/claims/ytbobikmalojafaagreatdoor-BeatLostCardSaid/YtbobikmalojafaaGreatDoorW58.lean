/- Steps towards the statements of this seat; the conditions stand in each theorem. -/
import Derived.Test.YtbobikmalojafaaGreatDoorPartW1
set_option linter.unusedSimpArgs false
set_option linter.unusedVariables false
set_option maxRecDepth 100000
namespace Go.Xt
set_option linter.defProp false
set_option maxHeartbeats 4000000
theorem Ju{xs:List Topic}{x y:Topic}{i:Nat}{v0 v1 v2 v3 v4 v5 v6 v7 v8 v9 v10 v11 v12 v13 v14 v15:PV}{k:PV→Prop}(h:xs[i]? =some x)(hv:[v0,v1,v2,v3,v4,v5,v6,v7,v8,v9,v10,v11,v12,v13,v14,v15]=Row.row y):(OP (.set 0) [L xs,I i,v0] fun w0=>OP (.set 1) [w0,I i,v1] fun w1=>OP (.set 2) [w1,I i,v2] fun w2=>OP (.set 3) [w2,I i,v3] fun w3=>OP (.set 4) [w3,I i,v4] fun w4=>OP (.set 5) [w4,I i,v5] fun w5=>OP (.set 6) [w5,I i,v6] fun w6=>OP (.set 7) [w6,I i,v7] fun w7=>OP (.set 8) [w7,I i,v8] fun w8=>OP (.set 9) [w8,I i,v9] fun w9=>OP (.set 10) [w9,I i,v10] fun w10=>OP (.set 11) [w10,I i,v11] fun w11=>OP (.set 12) [w11,I i,v12] fun w12=>OP (.set 13) [w12,I i,v13] fun w13=>OP (.set 14) [w13,I i,v14] fun w14=>OP (.set 15) [w14,I i,v15] fun w15=>k w15)=k (L (xs.set i y)):=by
 rw[Topic.row_eq] at hv
 simp only[List.cons.injEq,and_true] at hv
 obtain ⟨rfl,rfl,rfl,rfl,rfl,rfl,rfl,rfl,rfl,rfl,rfl,rfl,rfl,rfl,rfl,rfl⟩:=hv
 exact ct h
def gI:=And.intro @ki (And.intro @aZ (@bR))
theorem Fi(l:List Peer)(o:Int)(inc:Int)(hp:aT l=true∧rng o 0 (l.length-1)=true∧cnt inc=true)(hg:am (dL (l,o,inc)).2.1):WW ρ 3 qk dL (l,o,inc):=by
 simp only[dL,RR] at hg ⊢
 unfold qk
 obtain ⟨h1,h2,h3⟩:=hp
 have hb:=bg h2
 have hl:=kz h1
 have hz:ib l o=0:=by unfold ib;rw[if_pos h1,if_pos (by omega)]
 obtain ⟨k,rfl⟩:=Int.eq_ofNat_of_zero_le hb.1
 obtain ⟨x,hx⟩:=aE (xs:=l) (i:=k) (by omega)
 have hlt:=(List.getElem?_eq_some_iff.1 hx).1
 have h2:(l.set k ⟨inc,x.age⟩)[k]? =some ⟨inc,x.age⟩:=by simp[hlt]
 simp (disch:=first|omega|assumption|(constructor<;>first|assumption|omega)|simp only[LN];omega) only[↓SB,S1,↓gI,hz,h3]
 refine SUB.v1 (bb false) ?_ ?_
 ·simp (disch:=first|omega|assumption|(constructor<;>first|assumption|omega)|simp only[LN];omega) only[↓SB,S1,↓gI,h3]
 simp (disch:=first|omega|assumption|(constructor<;>first|assumption|omega)|simp only[LN];omega) only[↓SB,S1,↓gI,hz]
 refine SUB.v1 (I 0) ?_ ?_
 ·simp (disch:=first|omega|assumption|(constructor<;>first|assumption|omega)|simp only[LN];omega) only[↓SB,S1,↓gI,hz]
 simp (disch:=first|omega|assumption|(constructor<;>first|assumption|omega)|simp only[LN];omega) only[↓SB,S1,↓gI]
 have hd:zX l k inc=if x.inc≤inc then l.set k ⟨inc,0⟩ else l:=by
  unfold zX;rw[Int.toNat_natCast,List.getD_eq_getElem?_getD,hx];rfl
 simp (disch:=first|omega|assumption|(constructor<;>first|assumption|omega)|simp only[LN];omega) only[↓SB,S1,↓gI,ar hx]
 refine ⟨fun h=>?_,fun h=>?_⟩
 ·rw[cy hx (j:=0) (v:=I inc) (y:=⟨inc,x.age⟩) rfl,cy h2 (j:=1) (v:=I 0) (y:=⟨inc,0⟩) rfl,List.set_set,hd,if_pos h]
 ·rw[hd,if_neg h]
def lO(j:Int):Int:=(ly j nN).1
def lS(j:Int):Int:=(lO j+3) % 8
def lT(j:Int):Topic:={ eY with made:=true,sub:=true,parent:=lO j+1,asked:=lO j+1,path:=[lO j] }
def l0(j:Int):Node:={ wN0 with peers:=(wN0.peers.set (lO j).toNat ⟨1,0⟩),topics:=wN0.topics.set j.toNat (lT j),asks:=1,calls:=[⟨1,j,0⟩] }
def lH(j:Int)(n:Node):Node:={ n with peers:=zX n.peers (lO j) 1 }
def lN(j:Int)(n:Node):Node:=(eV uq (lS j) (lH j n)).1
def lAt(j:Int):Nat→Node
 | 0=>l0 j
 | i+1=>lN j (lAt j i)
def lOk(j:Int)(i:Nat)(n:Node):Bool :=
 aT n.peers&&rng (lO j) 0 (n.peers.length-1)&& !bj (lH j n)&&decide ((eV uq (lS j) (lH j n)).2.2=0)&&decide ((lN j n).topics.length=4) &&
 decide (n.topics.length=4)&&(decide ((n.topics.getD j.toNat eY).parent=lO j+1) == decide ((i:Int)≤4))&&(decide ((n.calls.length:Int)=1) == decide ((i:Int)≤20)) &&
 (decide (((n.topics.getD j.toNat eY).queue.length:Int)=1) == decide ((20:Int)<i))&&(decide ((i:Int)=0)||decide ((n.topics.getD j.toNat eY).asked=lO j+1))
def Ku(j:Int):Nat→Nat→Node→Bool
 | 0,_,_=>true
 | f+1,i,n=>lOk j i n&&Ku j f (i+1) (lN j n)
theorem Fj{j:Int}: ∀(f i:Nat),Ku j f i (lAt j i)=true→ ∀d,d<f→lOk j (i+d) (lAt j (i+d))=true
 | 0,_,_,d,h=>by omega
 | f+1,i,h,d,hd=>by
  rw[Ku,Bool.and_eq_true] at h
  cases d with
  | zero=>exact h.1
  | succ d =>
   have:=Fj f (i+1) h.2 d (by omega)
   rw[show i+1+d=i+(d+1) by omega] at this;exact this
theorem M0: ∀j:Fin 4,Ku (j.val:Int) 30 0 (l0 (j.val:Int))=true:=by decide +kernel
theorem Mf{j i:Nat}(hj:j<4)(hi:i<30):lOk j i (lAt j i)=true:=by
 have:=Fj (j:=(j:Int)) 30 0 (M0 ⟨j,hj⟩) i hi
 rwa [Nat.zero_add] at this
theorem M1: ∀j:Fin 4,(ly (j.val:Int) nN).2=0∧0≤lO j.val∧lO j.val≤7∧ba uq (lS j.val) (l0 j.val)=0:=by decide +kernel
def aQ:=And.intro @kg (And.intro @gE (And.intro @jl (And.intro @oI (And.intro @oL (@Eo)))))
theorem tX(ticks:Int)(t:Int):WW ρ 2 iP dI (ticks,t):=by
 simp only[dI,RR]
 unfold iP
 have e8:(8:Int).toNat=8:=rfl
 have e4:(4:Int).toNat=4:=rfl
 have hk0:0≤u64 ticks % 30∧u64 ticks % 30<30:=⟨Int.emod_nonneg _ (by omega),Int.emod_lt_of_pos _ (by omega)⟩
 have hj0:0≤u64 t % 4∧u64 t % 4<4:=⟨Int.emod_nonneg _ (by omega),Int.emod_lt_of_pos _ (by omega)⟩
 have hnl:L [(0:Int),1,2,3,4,5,6,7]=L nN:=rfl
 simp (disch:=first|omega|assumption|(constructor<;>first|assumption|omega)|simp only[LN];omega) only[↓SB,S1,↓aQ,↓DI]
 generalize u64 ticks % 30=K at hk0 ⊢
 generalize u64 t % 4=J at hj0 ⊢
 obtain ⟨k,rfl⟩:=Int.eq_ofNat_of_zero_le hk0.1
 obtain ⟨j,rfl⟩:=Int.eq_ofNat_of_zero_le hj0.1
 have hj:j<4:=by omega
 obtain ⟨w1,w2,w3,w4⟩:=M1 ⟨j,hj⟩
 have w1':(ly (j:Int) [0,1,2,3,4,5,6,7]).2=0:=w1
 have w5:(ly (j:Int) [0,1,2,3,4,5,6,7]).1=lO j:=rfl
 have w2':0≤lO j:=w2
 have w3':lO j≤7:=w3
 have a1: ¬lO j<0:=by omega
 have a2: ¬7<lO j:=by omega
 refine SUB.v1 (bb false) ?_ ?_
 ·simp (disch:=first|omega|assumption|(constructor<;>first|assumption|omega)|simp only[LN];omega) only[↓SB,S1,↓aQ,w5,a1,a2]
 simp (disch:=first|omega|assumption|(constructor<;>first|assumption|omega)|simp only[LN];omega) only[↓SB,S1,↓aQ,w5]
 refine SUB.v3 (L wN0.marks) (L wN0.topics) (L wN0.peers) ?_ ?_
 ·simp (disch:=first|omega|assumption|(constructor<;>first|assumption|omega)|simp only[LN];omega) only[↓SB,S1,↓aQ,e8,e4]
  exact ⟨⟨rfl,rfl⟩,⟨rfl,rfl⟩,rfl,rfl⟩
 obtain ⟨q,hq⟩:=Int.eq_ofNat_of_zero_le w2'
 have hp0:wN0.peers[q]? =some ⟨0,0⟩:=by
  show (List.replicate 8 (⟨0,0⟩:Peer))[q]? =_
  rw[List.getElem?_replicate,if_pos (by omega)]
 have hp1:(wN0.peers.set q ⟨1,0⟩)[q]? =some ⟨1,0⟩:=by
  have:=(List.getElem?_eq_some_iff.1 hp0).1;simp[this]
 have ht0:wN0.topics[j]? =some eY:=by
  show (List.replicate 4 eY)[j]? =_
  rw[List.getElem?_replicate,if_pos (by omega)]
 have hpl:(wN0.peers.length:Int)=8:=rfl
 have htl:(wN0.topics.length:Int)=4:=rfl
 have hN:l0 j=⟨true,1,wN0.peers.set q ⟨1,0⟩,wN0.topics.set j (lT j),[⟨1,j,0⟩],0,1,wN0.marks,[]⟩:=by
  unfold l0;rw[hq];rfl
 have hT0:lT j=⟨true,true,0,0,q+1,q+1,0,0,[(q:Int)],[],⟨0,0,0,[],[]⟩,[]⟩:=by
  unfold lT;rw[hq];rfl
 have hS:lS j=((q:Int)+3) % 8:=by unfold lS;rw[hq]
 rw[hq]
 rw[jB (by omega) (by omega),cy hp0 (j:=0) (v:=I 1) (y:=⟨1,0⟩) rfl,cy (hp1) (j:=1) (v:=I 0) (y:=⟨1,0⟩) rfl,List.set_set]
 simp (disch:=first|omega|assumption|(constructor<;>first|assumption|omega)|simp only[LN];omega) only[↓SB,S1,↓aQ]
 rw[Ju ht0 (y:=lT j) (by rw[hT0];rfl)]
 rw[hS,hN] at w4
 have w4':ba ⟨8,4,2,8,8,8,16⟩ (((q:Int)+3) % 8) ⟨true,1,wN0.peers.set q ⟨1,0⟩,wN0.topics.set j (lT j),[⟨1,j,0⟩],0,1,wN0.marks,[]⟩=0:=w4
 simp (disch:=first|omega|assumption|(constructor<;>first|assumption|omega)|simp only[LN];omega) only[↓SB,S1,↓aQ,↓rI (a_count:=1),w4',w1']
 rw[show L [(⟨1,(j:Int),0⟩:Kid)]=L [(⟨1,j,0⟩:Call)] from rfl]
 refine SUB.v1 (bb false) ?_ ?_
 ·simp (disch:=first|omega|assumption|(constructor<;>first|assumption|omega)|simp only[LN];omega) only[↓SB,S1,↓aQ,w4',w1']
 simp (disch:=first|omega|assumption|(constructor<;>first|assumption|omega)|simp only[LN];omega) only[↓SB,S1,↓aQ]
 refine aK.rule (α:=Nat) (fun i=>[I i,bb (lAt j i).up,I (lAt j i).inc,L (lAt j i).peers,L (lAt j i).topics,L (lAt j i).calls,I (lAt j i).pubs,I (lAt j i).asks,L (lAt j i).marks,L (lAt j i).taken,L (wN0.topics.set j (lT j)),L wN0.marks]) (fun i=>i≤k) (fun i=>k-i) 0 (by show _=[I 0,bb (l0 j).up,I (l0 j).inc,L (l0 j).peers,L (l0 j).topics,L (l0 j).calls,I (l0 j).pubs,I (l0 j).asks,L (l0 j).marks,L (l0 j).taken,L (wN0.topics.set j (lT j)),L wN0.marks];rw[hN];rfl) (by omega) (fun _=>rfl) ?_
 intro i hi
 simp only[app]
 have hok:=Mf hj (i:=i) (by omega)
 have hnext:lAt j (i+1)=lN j (lAt j i):=rfl
 simp only[lOk,Bool.and_eq_true,decide_eq_true_eq,Bool.or_eq_true,Bool.not_eq_true',beq_iff_eq] at hok
 obtain ⟨⟨⟨⟨⟨⟨⟨⟨⟨f1,f2⟩,f3⟩,f4⟩,f5⟩,f6⟩,f7⟩,f8⟩,f9⟩,f10⟩:=hok
 generalize lAt j i=n at f1 f2 f3 f4 f5 f6 f7 f8 f9 f10 hnext ⊢
 simp (disch:=first|omega|assumption|(constructor<;>first|assumption|omega)|simp only[LN];omega) only[↓SB,S1,↓aQ]
 refine ⟨fun h4=>?_,fun h4=>?_⟩
 ·have hh:bj { n with peers:=zX n.peers q 1 }=false:=by rw[←hq];exact f3
  have hpre:aT n.peers=true∧rng (q:Int) 0 (n.peers.length-1)=true∧cnt 1=true:=⟨f1,by rw[←hq];exact f2,rfl⟩
  obtain ⟨ms,hT⟩: ∃ms,eV ⟨8,4,2,8,8,8,16⟩ (((q:Int)+3) % 8) { n with peers:=zX n.peers q 1 }=(lN j n,ms,0):=by
   have h:eV uq (lS j) (lH j n)=(lN j n,(eV uq (lS j) (lH j n)).2.1,0):=Prod.ext rfl (Prod.ext rfl f4)
   generalize (eV uq (lS j) (lH j n)).2.1=ms at h
   refine ⟨ms,?_⟩
   rw[hS] at h;unfold lH at h;rw[hq] at h;exact h
  have f5':((lN j n).topics.length:Int)=4:=by omega
  simp (disch:=first|omega|assumption|(constructor<;>first|assumption|omega)|simp only[LN];omega) only[↓SB,S1,↓aQ,hT,f5']
  exact ⟨i+1,by rw[hnext];simp,by omega,by omega⟩
 ·have hik:i=k:=by omega
  subst hik
  obtain ⟨y,hy⟩:=aE (xs:=n.topics) (i:=j) (by omega)
  have hyd:n.topics.getD j eY=y:=by simp[List.getD_eq_getElem?_getD,hy]
  rw[Int.toNat_natCast,hyd] at f7 f9 f10
  rw[hq] at f7 f10
  simp (disch:=first|omega|assumption|(constructor<;>first|assumption|omega)|simp only[LN];omega) only[↓SB,S1,↓aQ,ar hy,f7,f8,f9]
  rcases f10 with f10 | f10
  ·simp[f10]
  ·simp (disch:=first|omega|assumption|(constructor<;>first|assumption|omega)|simp only[LN];omega) only[↓SB,S1,↓aQ,f10]
   simp
end Go.Xt
