/- A set of pairs of whole numbers kept in a map's block: how it reads, and what a put and a delete make of it. For every program, by its types' rows. -/
import Derived.Test.YtfcomoledfdojaaWWords
import Derived.Maps.OwnSet
import Derived.DeepKeys4
set_option linter.unusedVariables false
set_option linter.unusedSimpArgs false
namespace Go.Proofs.Ytfcomoledfdojaa.Sets
open Go.RowKit Go.Maps Go.WideMaps Go.Proofs.YtfcomoledfdojaaW.PrintWords

def kl (m k : Int) : Lit := .string (keyBytes [.int .i64 m, .int .i64 k])
def wf (m : Int) : Prop := (Lit.int .i64 m).wf = true
/-- A key's type: a struct of two ints. -/
structure KeyTy (P : Program) (K : TypeId) : Prop where
  key : ∀ m k, wf m → wf k → keyOf P K (.agg #[.int .i64 m, .int .i64 k]) = some (kl m k)
  keyed : Keyed P K
  inj : ∀ {a b : Value} {l : Lit}, keyOf P K a = some l → keyOf P K b = some l → a = b
theorem kl_inj {P : Program} {K : TypeId} (T : KeyTy P K) {m k m' k' : Int} (h1 : wf m) (h2 : wf k) (h3 : wf m') (h4 : wf k') (e : kl m k = kl m' k') : m = m' ∧ k = k' := by
  have a := T.key m k h1 h2
  have b := T.key m' k' h3 h4
  rw [← e] at b
  have := T.inj a b
  injection this with this
  injection this with this
  simp only [List.cons.injEq, Value.int.injEq] at this
  exact ⟨this.1.2, this.2.1.2⟩
theorem isKey (m k : Int) : WideAt.IsKeyLit (kl m k) := trivial
/-- Block b is a map of at most n entries whose keys are just the pairs of S. -/
def SetAt (P : Program) (K : TypeId) (w : World) (b n : Nat) (S : List (Int × Int)) : Prop :=
  ∃ D : DataW Unit, w.ownsMap P K unitElem b n D ∧ (∀ m k, wf m → wf k → Maps.has D (kl m k) = S.contains (m, k))
section
variable {P : Program} {K : TypeId} {w w1 : World} {b n : Nat} {S : List (Int × Int)}
theorem SetAt.lt (h : SetAt P K w b n S) : b < w.heap.size := by
  obtain ⟨D, ⟨es, c, hb, _⟩, _⟩ := h
  exact (Array.getElem?_eq_some_iff.1 hb).1
theorem SetAt.same (h : SetAt P K w b n S) (e : w1.heap[b]? = w.heap[b]?) : SetAt P K w1 b n S := by
  obtain ⟨D, ⟨es, c, hb, r⟩, hh⟩ := h
  exact ⟨D, ⟨es, c, e.trans hb, r⟩, hh⟩
theorem SetAt.below (h : SetAt P K w b n S) (hb : Below w.heap.size w w1) : SetAt P K w1 b n S := h.same (hb.block b h.lt)
theorem SetAt.drew (h : SetAt P K w b n S) : SetAt P K w.drew b n S := h
theorem SetAt.alloc (h : SetAt P K w b n S) (o : Obj) : SetAt P K (w.alloc o) b n S := h.below (below_alloc (Below.refl _ _) o)
theorem SetAt.setCell (h : SetAt P K w b n S) {a : Addr} (ha : b ≠ a.block) (u : Value) : SetAt P K (w.setCell a u) b n S := h.same (RowKit.Below.heap_setCell _ _ _ _ ha)
theorem contains_cons (S : List (Int × Int)) (m k m' k' : Int) : ((m, k) :: S).contains (m', k') = ((m == m' && k == k') || S.contains (m', k')) := by
  rw [Bool.eq_iff_iff]
  simp only [List.contains_eq_mem, List.mem_cons, decide_eq_true_eq, Bool.or_eq_true, Bool.and_eq_true, beq_iff_eq, Prod.mk.injEq]
  constructor
  · rintro (⟨h1, h2⟩ | h)
    · exact Or.inl ⟨h1.symm, h2.symm⟩
    · exact Or.inr h
  · rintro (⟨h1, h2⟩ | h)
    · exact Or.inl ⟨h1.symm, h2.symm⟩
    · exact Or.inr h
theorem SetAt.put (T : KeyTy P K) {D : DataW Unit} {m k : Int} (hm : wf m) (hk : wf k) (hD : IsMap D) (h : ∀ m k, wf m → wf k → Maps.has D (kl m k) = S.contains (m, k)) (u : DataW Unit) : ∀ m' k', wf m' → wf k' → Maps.has (D.put (kl m k) u) (kl m' k') = ((m, k) :: S).contains (m', k') := by
  intro m' k' hm' hk'
  rw [contains_cons]
  by_cases e : m = m' ∧ k = k'
  · obtain ⟨rfl, rfl⟩ := e
    rw [Maps.has_put_same hD (isKey _ _)]; simp
  · have hne : kl m' k' ≠ kl m k := fun c => by
      have := kl_inj T hm' hk' hm hk c
      exact e ⟨this.1.symm, this.2.symm⟩
    rw [Maps.has_put_other hne, h m' k' hm' hk']
    have : (m == m' && k == k') = false := by
      rw [Bool.eq_false_iff]; intro c; simp at c; exact e c
    rw [this, Bool.false_or]
theorem SetAt.del (T : KeyTy P K) {D : DataW Unit} {m k : Int} (hm : wf m) (hk : wf k) (h : ∀ m k, wf m → wf k → Maps.has D (kl m k) = S.contains (m, k)) : ∀ m' k', wf m' → wf k' → Maps.has (D.del (kl m k)) (kl m' k') = (S.filter (fun x => x != (m, k))).contains (m', k') := by
  intro m' k' hm' hk'
  have e0 : (S.filter (fun x => x != (m, k))).contains (m', k') = ((m', k') != (m, k) && S.contains (m', k')) := by
    rw [Bool.eq_iff_iff]
    simp only [List.contains_eq_mem, decide_eq_true_eq, List.mem_filter, Bool.and_eq_true]
    exact And.comm
  rw [e0]
  by_cases e : m = m' ∧ k = k'
  · obtain ⟨rfl, rfl⟩ := e
    rw [Maps.has_del_same]; simp
  · have hne : kl m' k' ≠ kl m k := fun c => by
      have := kl_inj T hm' hk' hm hk c
      exact e ⟨this.1.symm, this.2.symm⟩
    rw [Maps.has_del_other hne, h m' k' hm' hk']
    have : ((m', k') != (m, k)) = true := by
      rw [bne_iff_ne]; intro c; simp at c; exact e ⟨c.1.symm, c.2.symm⟩
    rw [this, Bool.true_and]
end
/-- What becomes of the set where a key is turned. -/
def turn (S : List (Int × Int)) (m k : Int) (down : Bool) : List (Int × Int) := if S.contains (m, k) == down then S else if down then (m, k) :: S else S.filter (fun x => x != (m, k))
end Go.Proofs.Ytfcomoledfdojaa.Sets
