/- Steps towards the statements of this seat; the conditions stand in each theorem. -/
import Derived.Test.YtahdphncepnbeaaGreatDoorV1
set_option linter.unusedSimpArgs false
set_option linter.unusedVariables false
namespace Go.Xt
abbrev I(n:Int):PV:=.int .i64 n
abbrev bb(b:Bool):PV:=.bool b
noncomputable def fnT{α:Type}(F:α→Prop×List PV×List PV):List PV→Option (List PV):=qq (fun a=>(F a).1) (fun a=>(F a).2.1) (fun a=>(F a).2.2)
theorem Ql{α:Type}{F:α→Prop×List PV×List PV}(hg: ∀a b,(F a).2.1=(F b).2.1→a=b){a:α}(hp:(F a).1):fnT F (F a).2.1=some (F a).2.2:=lR (pre:=fun a=>(F a).1) (g:=fun a=>(F a).2.1) (h:=fun a=>(F a).2.2) hg hp
class Row (α:Type) where
 w:Nat
 row:α→List PV
 len: ∀a,(row a).length=w
 inj: ∀a b,row a=row b→a=b
def L{α:Type}[Row α](xs:List α):PV:=.list (xs.map Row.row)
theorem OJ{α β:Type}{f:α→β}(hf: ∀a b,f a=f b→a=b): ∀ {l m:List α},l.map f=m.map f→l=m
 | [],[],_=>rfl
 | a::l,b::m,h=>by
  simp only[List.map_cons,List.cons.injEq] at h
  rw[hf a b h.1,OJ hf h.2]
 | [],_::_,h=>by simp at h
 | _::_,[],h=>by simp at h
theorem fk{α:Type}[Row α]{xs ys:List α}:(L xs=L ys)=(xs=ys):=by
 refine propext ⟨fun h=>?_,fun h=>by rw[h]⟩
 simp only[L,PV.list.injEq] at h
 exact OJ Row.inj h
instance:Row Int:=⟨1,fun n=>[I n],fun _=>rfl,by intro a b h;simpa using h⟩
instance:Row Bool:=⟨1,fun n=>[bb n],fun _=>rfl,by intro a b h;simpa using h⟩
instance {α:Type} [Row α]:Row (List α):=⟨1,fun xs=>[L xs],fun _=>rfl,by intro a b h;simpa[fk] using h⟩
theorem U7{n:Int}:Row.row n=[I n]:=rfl
theorem U8{n:Bool}:Row.row n=[bb n]:=rfl
theorem U9{α:Type}[Row α]{n:List α}:Row.row n=[L n]:=rfl
class RowW (α:Type) [Row α] (w:Nat):Prop where
 h:Row.w α=w
instance:RowW Int 1:=⟨rfl⟩
instance:RowW Bool 1:=⟨rfl⟩
instance {α:Type} [Row α]:RowW (List α) 1:=⟨rfl⟩
theorem aV{α:Type}[Row α]{xs:List α}:sA (L xs)=(xs.length≤2 ^ 63-1):=by simp[sA,L]
theorem cj{n:Int}:sA (I n)=(-9223372036854775808≤n∧n≤9223372036854775807):=by simp[sA,inr,IntKind.min,IntKind.max,IntKind.bits,IntKind.signed]
def Qm(p:PV):Prop:= ∃xs:List (List PV),p=.list xs∧ ∀r∈xs,∀q∈r,q.scalar=true
def kE(own:List Nat):Nat→List PV→Prop
 | _,[]=>True
 | j,p::r=>(if j∈own then Qm p else p.scalar=true)∧kE own (j+1) r
theorem G8{own:List Nat}: ∀ {rs:List PV} {i:Nat},kE own i rs→ ∀j p,rs[j]? =some p→if i+j∈own then Qm p else p.scalar=true
 | [],_,_,j,p,h=>by simp at h
 | x::r,i,hf,0,p,h=>by simp at h;subst h;exact hf.1
 | x::r,i,hf,j+1,p,h=>by
  have:=G8 hf.2 j p (by simpa using h)
  rwa [show i+1+j=i+(j+1) by omega] at this
theorem bM{own:List Nat}{rs:List PV}(h:kE own 0 rs):wT own rs:=fun j p hp=>by
 have:=G8 h j p hp
 rwa [Nat.zero_add] at this
class FlatRow (α:Type) [Row α]:Prop where
 flat: ∀a:α,∀q∈Row.row a,q.scalar=true
instance:FlatRow Int:=⟨fun a q hq=>by simp[Row.row] at hq;subst hq;rfl⟩
instance:FlatRow Bool:=⟨fun a q hq=>by simp[Row.row] at hq;subst hq;rfl⟩
theorem jg{α:Type}[Row α][FlatRow α]{xs:List α}:Qm (L xs):=⟨_,rfl,fun r hr q hq=>by
 obtain ⟨a,_,rfl⟩:=List.mem_map.1 hr
 exact FlatRow.flat a q hq⟩
section
variable {m:Nat}{B:(List PV→Prop)→Prop}{k:x7 m}
theorem SUB.val(vs:List PV)(h:vs.length=m)(h1:B (· =vs))(h2:app m k vs):SUB m B k:=.inl ⟨vs,h,h1,h2⟩
theorem SUB.v1{k:PV→Prop}(p:PV)(h1:B (· =[p]))(h2:k p):SUB 1 B k:=.inl ⟨[p],rfl,h1,h2⟩
theorem SUB.v2{k:PV→PV→Prop}(p q:PV)(h1:B (· =[p,q]))(h2:k p q):SUB 2 B k:=.inl ⟨[p,q],rfl,h1,h2⟩
theorem SUB.v3{k:PV→PV→PV→Prop}(p q r:PV)(h1:B (· =[p,q,r]))(h2:k p q r):SUB 3 B k:=.inl ⟨[p,q,r],rfl,h1,h2⟩
theorem SUB.path(h:B (fun rs=>rs.length=m∧app m k rs)):SUB m B k:=.inr h
theorem ax.rule{m:Nat}{init:List PV}{B:(List PV→Prop)→x7 m}{α:Type}(enc:α→List PV)(J:α→Prop)(μ:α→Nat)(a0:α)(h0:init=enc a0)(h1:J a0)
  (hl: ∀a,(enc a).length=m) (h: ∀a,J a→app m (B fun vs=> ∃a',vs=enc a'∧J a'∧μ a'<μ a) (enc a)):ax m init B :=
 ⟨α,enc,J,μ,a0,h0,h1,fun a ha=>⟨hl a,h a ha⟩⟩
end
theorem Bq{c:Bool}{a b:Prop}:ITE (.bool c) a b=((c=true→a)∧(c=false→b)):=by
 unfold ITE;refine propext ⟨?_,fun h=>⟨c,rfl,h⟩⟩
 rintro ⟨x,h1,h2⟩;cases h1;exact h2
theorem jm{a b:Prop}:ITE (.bool true) a b=a:=by rw[Bq];simp
theorem bh{a b:Prop}:ITE (.bool false) a b=b:=by rw[Bq];simp
theorem UR{k:PV→Prop}{a:PV}:app 1 k [a]=k a:=rfl
theorem US{k:PV→PV→Prop}{a b:PV}:app 2 k [a,b]=k a b:=rfl
theorem UT{k:PV→PV→PV→Prop}{a b c:PV}:app 3 k [a,b,c]=k a b c:=rfl
theorem UU{k:PV→PV→PV→PV→Prop}{a b c d:PV}:app 4 k [a,b,c,d]=k a b c d:=rfl
theorem T7{a:PV}{l:List PV}:look (a::l) 0=a:=rfl
theorem T8{a:PV}{l:List PV}{n:Nat}:look (a::l) (n+1)=look l n:=rfl
theorem lS{ρ:Fns}{K:Nat}{as rs:List PV}{m:Nat}{k:x7 m}(h:ρ K as=some rs)(hm:rs.length=m):CALL ρ K as m k=app m k rs:=by
 unfold CALL;refine propext ⟨?_,fun h2=>⟨rs,h,hm,h2⟩⟩
 rintro ⟨rs',h1,h2,h3⟩;rw[h] at h1;cases h1;exact h3
theorem Nd{ρ:Fns}{K m:Nat}{k:x7 m}{α:Type}{F:α→Prop×List PV×List PV}(e:ρ K=fnT F)(hg: ∀a b,(F a).2.1=(F b).2.1→a=b)(a:α)(hp:(F a).1)(hm:(F a).2.2.length=m):CALL ρ K (F a).2.1 m k=app m k (F a).2.2 :=
 lS (by rw[e];exact Ql hg hp) hm
theorem aH{o:POp}{as:List PV}{v:PV}{k:PV→Prop}(h:ev o as=some v):OP o as k=k v:=by
 unfold OP;refine propext ⟨?_,fun h2=>⟨v,h,h2⟩⟩
 rintro ⟨v',h1,h2⟩;rw[h] at h1;cases h1;exact h2
section
variable {α:Type}[Row α]{xs ys:List α}{k:PV→Prop}{n:Int}{w:Nat}{κ:IntKind}
theorem T9:OP .len [L xs] k=k (I xs.length):=aH (by simp[ev,L])
theorem RS:OP .len [.list []] k=k (I 0):=aH (by simp[ev])
theorem tq[hw:RowW α w]:qF w (xs.map Row.row)=true:=by cases xs<;>simp[qF,Row.len,hw.h]
theorem Qn[hw:RowW α w](h0:0≤n)(h1:n<xs.length):OP (.idx w) [L xs,.int κ n] k=k (.int κ n) :=
 aH (by simp only[ev,L];rw[if_pos ⟨h0,by simpa using h1,tq⟩])
theorem af{x:α}{i:Nat}{j:Nat}(h:xs[i]? =some x):(L xs).cellAt (.int κ i) j=look (Row.row x) j:=by
 simp[L,PV.cellAt,List.getD_eq_getElem?_getD,h]
theorem Ua{x:α}{j:Nat}{xs:List α}:(L (x::xs)).cellAt (.int κ 0) j=look (Row.row x) j:=af (i:=0) rfl
theorem Qo{xs:List Int}{n:Int}(h0:0≤n)(h:n<xs.length):(L xs).cellAt (.int κ n) 0=I (xs.getD n.toNat 0):=by
 obtain ⟨m,rfl⟩:=Int.eq_ofNat_of_zero_le h0
 have h2:m<xs.length:=by omega
 rw[af (x:=xs[m]) (by simp[h2])];simp[Row.row,look,h2]
theorem RT{w:Nat}[hw:RowW α w](h0:0≤n)(h1:n≤xs.length):OP (.slice w true false) [L xs,I n] k=k (L (xs.drop n.toNat)) :=
 aH (by simp only[ev,L];rw[if_pos ⟨h0,by simpa using h1,tq⟩];simp)
theorem RU{w:Nat}[hw:RowW α w](h0:0≤n)(h1:n≤xs.length):OP (.slice w false true) [L xs,I n] k=k (L (xs.take n.toNat)) :=
 aH (by simp only[ev,L];rw[if_pos ⟨h0,by simpa using h1,tq⟩];simp)
theorem Ta{w:Nat}{l:Int}[hw:RowW α w](h0:0≤l)(h2:l≤n)(h1:n≤xs.length):OP (.slice w true true) [L xs,I l,I n] k=k (L ((xs.take n.toNat).drop l.toNat)) :=
 aH (by simp only[ev,L];rw[if_pos ⟨h0,h2,by simpa using h1,tq⟩];simp)
theorem Tb{w:Nat}:OP (.slice w false false) [L xs] k=k (L xs):=aH rfl
theorem Tc:OP .isl [L xs] k=k (bb true):=aH rfl
theorem RV:OP .isl [.list []] k=k (bb true):=aH rfl
theorem Td{w b:Nat}[hw:RowW α w](h:(xs.length+ys.length)*b≤140737488355328):OP (.app w b) [L xs,L ys] k=k (L (xs++ys)) :=
 aH (by simp only[ev,L];rw[if_pos ⟨by simpa[sK] using h,tq,tq⟩];simp)
theorem RW{w b:Nat}[hw:RowW α w](h:ys.length*b≤140737488355328):OP (.app w b) [.list [],L ys] k=k (L ys) :=
 aH (by simp only[ev,L];rw[if_pos ⟨by simpa[sK] using h,rfl,tq⟩];simp)
theorem RX{w b:Nat}[hw:RowW α w](h:xs.length*b≤140737488355328):OP (.app w b) [L xs,.list []] k=k (L xs) :=
 aH (by simp only[ev,L];rw[if_pos ⟨by simpa[sK] using h,tq,rfl⟩];simp)
theorem Qp{w b:Nat}:OP (.app w b) [.list [],.list []] k=k (.list []) :=
 aH (by simp[ev,sK,qF])
end
theorem tr{α:Type}[Row α]{xs:List α}{k:PV→Prop}:Bp (L xs) false k=((xs=[]→k (bb true))∧k (bb false)):=by
 unfold Bp L
 refine propext ⟨?_,?_⟩
 ·rintro ⟨ys,h1,h2⟩;cases h1
  exact ⟨fun h=>h2 true fun _=>by rw[h];rfl,h2 false fun h=>by cases h⟩
 ·rintro ⟨h1,h2⟩
  refine ⟨_,rfl,fun b hb=>?_⟩
  cases b with
  | true=>exact h1 (by simpa using hb rfl)
  | false=>exact h2
section
variable {k:PV→Prop}
theorem RY{a:Int}:OP (.rows 1) [I a] k=k (L [a]):=aH (by simp[ev,cz,L,Row.row])
theorem Qq{a b:Int}:OP (.rows 1) [I a,I b] k=k (L [a,b]):=aH (by simp[ev,cz,L,Row.row])
theorem Qr{a b c d:Int}:OP (.rows 1) [I a,I b,I c,I d] k=k (L [a,b,c,d]):=aH (by simp[ev,cz,L,Row.row])
theorem Qs{a b c d e f g h:Int}:OP (.rows 1) [I a,I b,I c,I d,I e,I f,I g,I h] k=k (L [a,b,c,d,e,f,g,h]):=aH (by simp[ev,cz,L,Row.row])
theorem RZ{α:Type}[Row α]{a:List α}:OP (.rows 1) [L a] k=k (L [a]):=aH (by simp[ev,cz,L,Row.row])
theorem Qt{α:Type}[Row α]{a b:List α}:OP (.rows 1) [L a,L b] k=k (L [a,b]):=aH (by simp[ev,cz,L,Row.row])
end
section
variable {κ:IntKind}{a b:Int}{k:PV→Prop}
theorem Te:OP (.bin .lss) [.int κ a,.int κ b] k=k (.bool (decide (a<b))):=aH (by simp[ev,lc])
theorem Tf:OP (.bin .leq) [.int κ a,.int κ b] k=k (.bool (decide (a≤b))):=aH (by simp[ev,lc])
theorem Tg:OP (.bin .gtr) [.int κ a,.int κ b] k=k (.bool (decide (b<a))):=aH (by simp[ev,lc])
theorem Th:OP (.bin .geq) [.int κ a,.int κ b] k=k (.bool (decide (b≤a))):=aH (by simp[ev,lc])
theorem eo:OP (.bin .eql) [.int κ a,.int κ b] k=k (.bool (decide (a=b))):=aH (by simp[ev,lc];rfl)
theorem Ti:OP (.bin .neq) [.int κ a,.int κ b] k=k (.bool (!decide (a=b))):=aH (by
 simp only[ev,lc,if_true,Option.some.injEq,PV.bool.injEq]
 by_cases h:a=b<;>simp[h])
theorem Tj{c:Bool}:OP (.un .not) [.bool c] k=k (.bool (!c)):=aH (by simp[ev])
theorem Tk{c d:Bool}:OP (.beq false) [.bool c,.bool d] k=k (.bool (c == d)):=aH (by simp[ev])
theorem Tl{c d:Bool}:OP (.beq true) [.bool c,.bool d] k=k (.bool (!(c == d))):=aH (by simp[ev])
theorem OK{n:Int}(h:inr κ n):κ.wrap n=n:=by
 obtain ⟨h1,h2⟩:=h
 cases κ <;>simp[IntKind.wrap,IntKind.min,IntKind.max,IntKind.bits,IntKind.signed] at * <;>omega
theorem wr{n:Int}(h0: -9223372036854775808≤n)(h1:n≤9223372036854775807):IntKind.i64.wrap n=n:=OK (κ:=.i64) ⟨h0,h1⟩
theorem Tm(h0: -9223372036854775808≤a+b)(h1:a+b≤9223372036854775807):OP (.bin .add) [I a,I b] k=k (I (a+b)):=aH (by simp[ev,lc,wr h0 h1])
theorem Tn(h0: -9223372036854775808≤a-b)(h1:a-b≤9223372036854775807):OP (.bin .sub) [I a,I b] k=k (I (a-b)):=aH (by simp[ev,lc,wr h0 h1])
theorem OL:OP (.bin .add) [I a,I b] k=k (I (IntKind.i64.wrap (a+b))):=aH (by simp[ev,lc])
def u64(n:Int):Int:=n % 18446744073709551616
theorem To(n:Int):0≤u64 n∧u64 n<18446744073709551616:=by unfold u64;omega
theorem Ub:OP (.conv .u64) [I a] k=k (.int .u64 (u64 a)):=aH (by simp[ev,IntKind.wrap,IntKind.bits,IntKind.signed,u64])
theorem S4(h:0<b):OP (.bin .rem) [.int .u64 (u64 a),.int .u64 b] k=k (.int .u64 (u64 a % b)):=aH (by
 have h1: ¬b=0:=by omega
 have:=To a
 simp[ev,lc,h1,Int.tmod_eq_emod_of_nonneg this.1])
theorem GY(h0:0≤a)(h:0<b):OP (.bin .rem) [I a,I b] k=k (I (a % b)):=aH (by
 have h1: ¬b=0:=by omega
 simp[ev,lc,h1,Int.tmod_eq_emod_of_nonneg h0])
theorem Uc(h0: -9223372036854775808≤a)(h1:a≤9223372036854775807):OP (.conv .i64) [.int κ a] k=k (I a):=aH (by
 simp only[ev,Option.some.injEq,PV.int.injEq,true_and];exact OK (κ:=.i64) ⟨h0,h1⟩)
theorem bk{α:Type}[Row α]{xs:List α}{x:α}{i:Nat}{v:PV}{y:α}{j:Nat}(hi:xs[i]? =some x)(hy:(Row.row x).set j v=Row.row y) :
  OP (.set j) [L xs,.int κ i,v] k=k (L (xs.set i y)):=aH (by
 obtain ⟨h1,h2⟩:=List.getElem?_eq_some_iff.1 hi
 simp only[ev,L]
 rw[if_pos ⟨by omega,by simpa using h1⟩]
 simp[List.getD_eq_getElem?_getD,hi,hy,List.map_set])
theorem Ud:OP .mn [I a,I b] k=k (I (min a b)):=aH (by
 simp only[ev,if_true,Option.some.injEq,PV.int.injEq,true_and];split<;>omega)
theorem Ue:OP .mx [I a,I b] k=k (I (max a b)):=aH (by
 simp only[ev,if_true,Option.some.injEq,PV.int.injEq,true_and];split<;>omega)
theorem Tp{c:Bool}{x y:PV}:OP .sel [.bool c,x,y] k=k (if c then x else y):=aH (by cases c<;>rfl)
end
section
variable {c:Bool}{p:Prop}[Decidable p]
theorem Uf{R:List PV→Prop}{a b:List PV}:ITE (.bool c) (R a) (R b)=R (if c=true then a else b):=by
 cases c<;>simp[jm,bh]
theorem Tq{x a b:List PV}:ITE (.bool c) (a=x) (b=x)=((if c=true then a else b)=x):=by
 cases c<;>simp[jm,bh]
theorem Ug{a b:PV}{l m:List PV}:(if p then a::l else b::m)=(if p then a else b)::(if p then l else m):=by split<;>rfl
theorem Tr{a b:Bool}:(if p then PV.bool a else PV.bool b)=PV.bool (if p then a else b):=by split<;>rfl
theorem Uh{κ:IntKind}{a b:Int}:(if p then PV.int κ a else PV.int κ b)=PV.int κ (if p then a else b):=by split<;>rfl
theorem Ui{α:Type}[Row α]{a b:List α}:(if p then L a else L b)=L (if p then a else b):=by split<;>rfl
theorem Ts{α:Type}[Row α]{a:List α}:(if p then L a else .list [])=L (if p then a else []):=by split<;>rfl
theorem Tt{α:Type}[Row α]{a:List α}:(if p then .list [] else L a)=L (if p then [] else a):=by split<;>rfl
theorem Tu{v:PV}{k:PV→Prop}:SUB 1 (fun R=>R [v]) k=k v:=by
 unfold SUB;refine propext ⟨?_,fun h=>.inr ⟨rfl,h⟩⟩
 rintro (⟨rs,h1,rfl,h3⟩ | ⟨_,h⟩)
 ·exact h3
 ·exact h
theorem Tv{v w:PV}{k:PV→PV→Prop}:SUB 2 (fun R=>R [v,w]) k=k v w:=by
 unfold SUB;refine propext ⟨?_,fun h=>.inr ⟨rfl,h⟩⟩
 rintro (⟨rs,h1,rfl,h3⟩ | ⟨_,h⟩)
 ·exact h3
 ·exact h
theorem Tw{v w x:PV}{k:PV→PV→PV→Prop}:SUB 3 (fun R=>R [v,w,x]) k=k v w x:=by
 unfold SUB;refine propext ⟨?_,fun h=>.inr ⟨rfl,h⟩⟩
 rintro (⟨rs,h1,rfl,h3⟩ | ⟨_,h⟩)
 ·exact h3
 ·exact h
end
section
variable {k:PV→Prop}{a1 a2 a3 a4 a5 a6 b1 b2 b3 b4 b5 b6:Int}{κ:IntKind}
theorem S5{n:Bool}:OP (.eqs n [true,true]) [I a1,I a2,I b1,I b2] k=k (bb (if n then !(decide (a1=b1)&&decide (a2=b2)) else (decide (a1=b1)&&decide (a2=b2)))):=aH (by
 simp[ev,sJ,PV.eqv];rfl)
theorem S6{n:Bool}:OP (.eqs n [true,true,true]) [I a1,I a2,I a3,I b1,I b2,I b3] k=k (bb (if n then !(decide (a1=b1)&&(decide (a2=b2)&&decide (a3=b3))) else (decide (a1=b1)&&(decide (a2=b2)&&decide (a3=b3))))):=aH (by
 simp[ev,sJ,PV.eqv];rfl)
theorem S7{n:Bool}:OP (.eqs n [true,true,true,true,true]) [I a1,I a2,I a3,I a4,I a5,I b1,I b2,I b3,I b4,I b5] k=k (bb (if n then !(decide (a1=b1)&&(decide (a2=b2)&&(decide (a3=b3)&&(decide (a4=b4)&&decide (a5=b5))))) else (decide (a1=b1)&&(decide (a2=b2)&&(decide (a3=b3)&&(decide (a4=b4)&&decide (a5=b5))))))):=aH (by
 simp[ev,sJ,PV.eqv];rfl)
theorem S8{n:Bool}:OP (.eqs n [true,true,true,true,true,true]) [I a1,I a2,I a3,I a4,I a5,I a6,I b1,I b2,I b3,I b4,I b5,I b6] k=k (bb (if n then !(decide (a1=b1)&&(decide (a2=b2)&&(decide (a3=b3)&&(decide (a4=b4)&&(decide (a5=b5)&&decide (a6=b6)))))) else (decide (a1=b1)&&(decide (a2=b2)&&(decide (a3=b3)&&(decide (a4=b4)&&(decide (a5=b5)&&decide (a6=b6)))))))):=aH (by
 simp[ev,sJ,PV.eqv];rfl)
end
theorem GZ{α:Type}[Row α]{z:α}{zs:List Lit}{b:Nat}{n:Int}{k:PV→Prop}(hz:zs.map Lit.pv=Row.row z)(h0:0≤n)(hb:n.toNat*b≤140737488355328):OP (.repl b zs) [I n] k=k (L (List.replicate n.toNat z)):=aH (by
 simp only[ev];rw[if_pos ⟨h0,by simpa[sK] using hb⟩];simp[L,hz])
theorem ay{α:Type}{xs:List α}{i:Nat}{x:α}(h:xs[i]? =some x):xs.drop i=x::xs.drop (i+1):=by
 obtain ⟨h1,h2⟩:=List.getElem?_eq_some_iff.1 h
 rw[←h2,List.drop_eq_getElem_cons h1]
theorem ak{α:Type}{xs:List α}{i:Nat}(h:(i:Int)<xs.length): ∃x,xs[i]? =some x :=
 ⟨xs[i]'(by omega),by simp⟩
theorem ap{α:Type}{xs:List α}{i:Nat}(h: ¬(i:Int)<xs.length):xs.drop i=[]:=List.drop_eq_nil_of_le (by omega)
@[reducible] def Kx:Nat→Type
 | 0=>(List PV→Prop)→Prop
 | n+1=>PV→Kx n
def Tx:(n:Nat)→(List PV→(List PV→Prop)→Prop)→Kx n
 | 0,f=>fun Q=>f [] Q
 | n+1,f=>fun v=>Tx n fun l=>f (v::l)
def Ky:(n:Nat)→Kx n→List PV→(List PV→Prop)→Prop
 | 0,f,_=>f
 | n+1,f,p::l=>Ky n (f p) l
 | _+1,_,[]=>fun _=>False
theorem Kz: ∀(n:Nat) (f:List PV→(List PV→Prop)→Prop) (l:List PV) (Q:List PV→Prop),l.length=n→Ky n (Tx n f) l Q=f l Q
 | 0,f,[],Q,_=>rfl
 | n+1,f,p::l,Q,h=>Kz n (fun l=>f (p::l)) l Q (by simpa using h)
 | 0,_,_::_,_,h=>by simp at h
 | _+1,_,[],_,h=>by simp at h
def zl(P:Program)(ρ:Fns):List Sig→Prop
 | []=>True
 | s::r=>bZ P s (ρ s.K)∧zl P ρ r
theorem zl.mem{P:Program}{ρ:Fns}: ∀ {l:List Sig},zl P ρ l→ ∀s∈l,bZ P s (ρ s.K)
 | _::_,h,s,hs=>by
  rcases List.mem_cons.1 hs with rfl | h2
  ·exact h.1
  ·exact zl.mem h.2 s h2
theorem ac{P:Program}{ρ:Fns}{s:Sig}{r:List Sig}(h:bZ P s (ρ s.K))(t:zl P ρ r):zl P ρ (s::r):=⟨h,t⟩
theorem an{P:Program}{ρ:Fns}:zl P ρ []:=trivial
theorem ar{P:Program}{tab:List Sig}{ρ:Fns}{K:Nat}{o:List Nat}{fl:Bool}{α:Type} (ab:(P.funcs.toList.all fun fn=> !(fn.name == "runtime.NumGoroutine"))=true) (aq:P.follows .mixedOrders=true)
  (F:α→Prop×List PV×List PV) (n:Nat) (S:Fns→Kx n) (hs:aa) (hX:zl P ρ tab)
  (hscal:(∀a,(F a).2.2.all PV.scalar=true)∨((P.funcs[K]?).map fun fn=>fn.resultTypes.toList.all (fe P))=some false)
  (hflat:fl=false∨ ∀a,wT o (F a).2.2) (he:(GJ P tab hs 20 ⟨K,o,none,fl⟩).map (fun t ρ=>Tx n fun l Q=>W ρ t l [] Q)=some S)
  (hl: ∀a,(F a).2.1.length=n) (hW: ∀a,(F a).1→ag (F a).2.1→Ky n (S ρ) (F a).2.1 fun x=>x=(F a).2.2):bZ P ⟨K,o,none,fl⟩ (fnT F):=by
 refine PureOK.of_e (ρ:=ρ) (Ctx.of ab aq hX.mem) ?_ hflat he ?_
 ·exact hscal.imp (fun h a p hp=>List.all_eq_true.1 (h a) p hp) id
 ·intro t ht a hp hg
  have:=hW a hp hg
  rw[←ht] at this
  dsimp only at this
  rwa [Kz _ _ _ _ (hl a)] at this
def WW(ρ:Fns)(n:Nat)(S:Fns→Kx n){α:Type}(F:α→Prop×List PV×List PV)(a:α):Prop:=Ky n (S ρ) (F a).2.1 fun x=>x=(F a).2.2
class Enc (α:Type) where
 w:Nat
 enc:α→List PV
 len: ∀a,(enc a).length=w
 inj: ∀a b,enc a=enc b→a=b
instance {α:Type} [Row α]:Enc α:=⟨Row.w α,Row.row,Row.len,Row.inj⟩
instance {α β:Type} [Enc α] [Enc β]:Enc (α×β):=⟨Enc.w α+Enc.w β,fun p=>Enc.enc p.1++Enc.enc p.2,fun p=>by simp[Enc.len],fun p q h=>by
 have:=List.append_inj h (by rw[Enc.len,Enc.len])
 exact Prod.ext (Enc.inj _ _ this.1) (Enc.inj _ _ this.2)⟩
def mkF{α:Type}[Enc α](G:α→Prop×List PV)(a:α):Prop×List PV×List PV:=((G a).1,Enc.enc a,(G a).2)
theorem UV{ρ:Fns}{n:Nat}{S:Fns→Kx n}{α:Type}{F:α→Prop×List PV×List PV}{a:α}:WW ρ n S F a=Ky n (S ρ) (F a).2.1 fun x=>x=(F a).2.2:=rfl
theorem mk0{α:Type}[Enc α]{G:α→Prop×List PV}{a:α}:(mkF G a).1=(G a).1:=rfl
theorem mk1{α:Type}[Enc α]{G:α→Prop×List PV}{a:α}:(mkF G a).2.1=Enc.enc a:=rfl
theorem mk2{α:Type}[Enc α]{G:α→Prop×List PV}{a:α}:(mkF G a).2.2=(G a).2:=rfl
theorem Uj{α β:Type}[Enc α][Enc β]{a:α}{b:β}:Enc.enc (a,b)=Enc.enc a++Enc.enc b:=rfl
theorem Uk{α:Type}[Row α]{a:α}:Enc.enc a=Row.row a:=rfl
theorem Tz{n:Nat}{f:Kx (n+1)}{p:PV}{l:List PV}:Ky (n+1) f (p::l)=Ky n (f p) l:=rfl
theorem TA{f:Kx 0}{l:List PV}:Ky 0 f l=f:=rfl
theorem ah{n:Nat}{f:x7 (n+1)}{p:PV}{l:List PV}:app (n+1) f (p::l)=app n (f p) l:=rfl
theorem ai{f:x7 0}{l:List PV}:app 0 f l=f:=rfl
abbrev bA:POp:=.bin .add
abbrev bS:POp:=.bin .sub
abbrev bL:POp:=.bin .lss
abbrev bQ:POp:=.bin .leq
abbrev bG:POp:=.bin .gtr
abbrev bH:POp:=.bin .geq
abbrev bE:POp:=.bin .eql
abbrev bN:POp:=.bin .neq
abbrev bU:POp:=.un .not
theorem vM{ρ:Fns}{K m:Nat}{k:x7 m}{α:Type}[Enc α]{F:α→Prop×List PV×List PV}(e:ρ K=fnT F)(hg: ∀a,(F a).2.1=Enc.enc a)(a:α)(hp:(F a).1)(hm:(F a).2.2.length=m):CALL ρ K (F a).2.1 m k=app m k (F a).2.2 :=
 Nd e (fun a b h=>Enc.inj a b (by rw[←hg,←hg];exact h)) a hp hm
theorem Qu{α:Type}[Enc α]{F:α→Prop×List PV×List PV}(hg: ∀a,(F a).2.1=Enc.enc a){a:α}(hp:(F a).1):fnT F (F a).2.1=some (F a).2.2 :=
 Ql (fun a b h=>Enc.inj a b (by rw[←hg,←hg];exact h)) hp
end Go.Xt
