/- Steps towards the statements of this seat; the conditions stand in each theorem. -/
import Derived.Test.YtahdphncepnbeaaGreatDoorV2
set_option linter.unusedSimpArgs false
set_option linter.unusedVariables false
namespace Go.Xt
open Go.RowKit Go.ChangeShapes Go.WideShapes
class RowTy (α:Type) [Row α] where
 tys:List Ty
 bytes:Nat
 sz:α→Prop
 ex: ∀r,aw Has tys r→ ∃a:α,Row.row a=r∧sz a
theorem TZ{t:Ty}{ts:List Ty}{ps:List PV}(h:aw Has (t::ts) ps): ∃p r,ps=p::r∧Has t p∧aw Has ts r:=by
 cases ps with
 | nil=>exact h.elim
 | cons p r=>exact ⟨p,r,rfl,h.1,h.2⟩
theorem UL{ps:List PV}(h:aw Has [] ps):ps=[]:=by
 cases ps with
 | nil=>rfl
 | cons p r=>exact h.elim
theorem aB{k:IntKind}{p:PV}(h:Has (.int k) p): ∃n,p=.int k n:=by cases h;exact ⟨_,rfl⟩
theorem yc{p:PV}(h:Has .bool p): ∃n,p=.bool n:=by cases h;exact ⟨_,rfl⟩
theorem yd: ∀(ts:List Ty) (r:List PV),r.length=ts.length→(∀j,j<ts.length→Has (ts.getD j .bool) (look r j))→aw Has ts r
 | [],[],_,_=>trivial
 | t::ts,p::r,hl,h=>by
  refine ⟨by simpa[look] using h 0 (by simp),yd ts r (by simpa using hl) fun j hj=>?_⟩
  have:=h (j+1) (by simpa using hj)
  simpa[look] using this
 | [],_::_,h,_=>by simp at h
 | _::_,[],h,_=>by simp at h
def SzL{α:Type}[Row α][RowTy α](xs:List α):Prop:=xs.length*RowTy.bytes α≤140737488355328∧ ∀x∈xs,RowTy.sz x
theorem eh{α:Type}[Row α][RowTy α]{b:Nat}{ts:List Ty}{p:PV}(h:Has (.list b ts) p)(ht:ts=RowTy.tys α)(hb:b=RowTy.bytes α): ∃xs:List α,p=L xs∧SzL xs:=by
 subst ht
 subst hb
 cases h with
 | @list _ _ xs hb hm hl h =>
  have key: ∀i,i<xs.length→ ∃a:α,Row.row a=xs.getD i []∧RowTy.sz a:=fun i hi=>RowTy.ex _ (yd _ _ (hl i hi) fun j hj=>h i j hi hj)
  by_cases e: ∃d:α,True
  ·obtain ⟨d,_⟩:=e
   obtain ⟨l,h1,h2⟩:=tp d xs.length key
   refine ⟨l,?_,?_,?_⟩
   ·simp only[L,PV.list.injEq]
    refine List.ext_getElem (by simp[h1]) fun i hi hi'=>?_
    have:=(h2 i hi).1
    simp[hi,h1] at this
    simp[←this]
   ·rw[h1];exact hb
   ·intro x hx
    obtain ⟨i,hi⟩:=List.mem_iff_getElem?.1 hx
    have hil:=(List.getElem?_eq_some_iff.1 hi).1
    have:=(h2 i (by omega)).2
    rw[List.getD_eq_getElem?_getD,hi] at this
    exact this
  ·cases xs with
   | nil=>exact ⟨[],rfl,by simp,by simp⟩
   | cons x r=>obtain ⟨a,_⟩:=key 0 (by simp);exact absurd ⟨a,trivial⟩ e
instance:RowTy Int:=⟨[.int .i64],8,fun _=>True,fun r h=>by
 match r,h with
 | [p],⟨h,_⟩=>obtain ⟨n,rfl⟩:=aB h;exact ⟨n,rfl,trivial⟩⟩
instance:RowTy Bool:=⟨[.bool],1,fun _=>True,fun r h=>by
 match r,h with
 | [p],⟨h,_⟩=>obtain ⟨n,rfl⟩:=yc h;exact ⟨n,rfl,trivial⟩⟩
instance {α:Type} [Row α] [RowTy α]:RowTy (List α):=⟨[.list (RowTy.bytes α) (RowTy.tys α)],24,SzL,fun r h=>by
 match r,h with
 | [p],⟨h,_⟩=>obtain ⟨n,rfl,hs⟩:=eh (α:=α) h rfl rfl;exact ⟨n,rfl,hs⟩⟩
theorem ME{P:Program}{H:Type}{enc:TypeId×Value→H}{w:World}{b:Nat}{sp:Nat→Bool}{hd:Bool}: ∀(ts:List TypeId) (vs:List Value) (ds:List (DataW H)) (p:List MemPlace),DataW.TrodAll enc P w b sp hd ts vs ds p→ds.length=ts.length
 | [],vs,ds,p,h=>by obtain ⟨rfl,rfl,rfl⟩:=trodAll_nil h;rfl
 | t::ts,vs,ds,p,h=>by
  obtain ⟨v,vs1,d,ds1,a,b,rfl,rfl,rfl,h1,h2⟩:=trodAll_cons h
  simp[ME ts vs1 ds1 b h2]
theorem V0{P:Program}{H:Type}{ts us:List TypeId}{ds gs:List (DataW H)}(hu:us=[])(hg:gs=[])(h:(DataW.weightsEach P (ts++us) (ds++gs)).all (· ≤reachBytes)=true): ∀k∈DataW.weightsEach P ts ds,k≤reachBytes:=by
 subst hu;subst hg
 rw[List.append_nil,List.append_nil] at h
 intro k hk
 have:=List.all_eq_true.1 h k hk
 simpa using this
end Go.Xt
