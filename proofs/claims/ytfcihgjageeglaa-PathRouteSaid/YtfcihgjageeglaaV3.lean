/- Arguments that are read, as typed lists; a law's row. -/
import Derived.Test.YtfcihgjageeglaaV2
set_option linter.unusedSimpArgs false
set_option linter.unusedVariables false
namespace Go.Xt
open Go.RowKit Go.ChangeShapes Go.WideShapes

/-- a row type whose rows are just those of the cells' types -/
class RowTy (α : Type) [Row α] where
  tys : List Ty
  ex : ∀ r, All2 Has tys r → ∃ a : α, Row.row a = r

theorem has_int {k : IntKind} {p : PV} (h : Has (.int k) p) : ∃ n, p = .int k n := by cases h; exact ⟨_, rfl⟩
theorem has_bool {p : PV} (h : Has .bool p) : ∃ n, p = .bool n := by cases h; exact ⟨_, rfl⟩

theorem all2_of_look : ∀ (ts : List Ty) (r : List PV), r.length = ts.length → (∀ j, j < ts.length → Has (ts.getD j .bool) (look r j)) → All2 Has ts r
  | [], [], _, _ => trivial
  | t :: ts, p :: r, hl, h => by
    refine ⟨by simpa [look] using h 0 (by simp), all2_of_look ts r (by simpa using hl) fun j hj => ?_⟩
    have := h (j + 1) (by simpa using hj)
    simpa [look] using this
  | [], _ :: _, h, _ => by simp at h
  | _ :: _, [], h, _ => by simp at h

theorem has_list {α : Type} [Row α] [RowTy α] {ts : List Ty} {p : PV} (h : Has (.list ts) p) (ht : ts = RowTy.tys α) : ∃ xs : List α, p = L xs := by
  subst ht
  cases h with
  | @list _ xs hm hl h =>
    have key : ∀ i, i < xs.length → ∃ a : α, Row.row a = xs.getD i [] := fun i hi => RowTy.ex _ (all2_of_look _ _ (hl i hi) fun j hj => h i j hi hj)
    by_cases e : ∃ d : α, True
    · obtain ⟨d, _⟩ := e
      obtain ⟨l, h1, h2⟩ := exists_list d xs.length key
      refine ⟨l, ?_⟩
      simp only [L, PV.list.injEq]
      refine List.ext_getElem (by simp [h1]) fun i hi hi' => ?_
      have := h2 i hi
      simp [hi, h1] at this
      simp [← this]
    · cases xs with
      | nil => exact ⟨[], rfl⟩
      | cons x r => obtain ⟨a, _⟩ := key 0 (by simp); exact absurd ⟨a, trivial⟩ e

instance : RowTy Int := ⟨[.int .i64], fun r h => by
  match r, h with
  | [p], ⟨h, _⟩ => obtain ⟨n, rfl⟩ := has_int h; exact ⟨n, rfl⟩⟩
instance : RowTy Bool := ⟨[.bool], fun r h => by
  match r, h with
  | [p], ⟨h, _⟩ => obtain ⟨n, rfl⟩ := has_bool h; exact ⟨n, rfl⟩⟩
instance {α : Type} [Row α] [RowTy α] : RowTy (List α) := ⟨[.list (RowTy.tys α)], fun r h => by
  match r, h with
  | [p], ⟨h, _⟩ => obtain ⟨n, rfl⟩ := has_list (α := α) h rfl; exact ⟨n, rfl⟩⟩

theorem trodAll_len {P : Program} {H : Type} {enc : TypeId × Value → H} {w : World} {b : Nat} {sp : Nat → Bool} {hd : Bool} : ∀ (ts : List TypeId) (vs : List Value) (ds : List (DataW H)) (p : List MemPlace), DataW.TrodAll enc P w b sp hd ts vs ds p → ds.length = ts.length
  | [], vs, ds, p, h => by obtain ⟨rfl, rfl, rfl⟩ := trodAll_nil h; rfl
  | t :: ts, vs, ds, p, h => by
    obtain ⟨v, vs1, d, ds1, a, b, rfl, rfl, rfl, h1, h2⟩ := trodAll_cons h
    simp [trodAll_len ts vs1 ds1 b h2]
end Go.Xt
