/- What a row's bound gives: how long a slice is that was given. -/
import Derived.Test.YtajidgilfkineaaEvS
import Derived.Test.YtajidgilfkineaaRows
set_option linter.unusedVariables false
namespace Go.Proofs.Ytajidgilfkineaa.Ev
open Go
section
variable {H : Type} {enc : TypeId × Value → H} {P : Program} {w : World} {sp : Nat → Bool} {held : Bool}
theorem bulk_one (d : DataW H) : 1 ≤ Rows.uptoBulk d := by
  cases d with
  | lit l => cases l <;> simp [Rows.uptoBulk]
  | _ => simp [Rows.uptoBulk]
theorem bulk_len (l : List (DataW H)) : l.length ≤ Rows.uptoBulkAll l := by
  induction l with
  | nil => simp
  | cons x r ih => have := bulk_one x; simp only [Rows.uptoBulkAll, List.length_cons]; omega
theorem bulk_mem {d : DataW H} {l : List (DataW H)} (h : d ∈ l) : Rows.uptoBulk d ≤ Rows.uptoBulkAll l := by
  induction l with
  | nil => cases h
  | cons x r ih =>
    simp only [Rows.uptoBulkAll]
    cases List.mem_cons.1 h with
    | inl e => subst e; omega
    | inr e => have := ih e; omega
theorem bulk_small {ds : List (DataW H)} (hk : Rows.uptoSmall H ds = true) {i : Nat} {d : DataW H} (h : ds[i]? = some d) : Rows.uptoBulk d ≤ 1048576 := by
  have h1 : Rows.uptoBulkAll ds ≤ 1048576 := of_decide_eq_true hk
  have := bulk_mem (List.mem_of_getElem? h)
  omega
theorem arg_rvB {m : Nat} {t e : TypeId} (ty : Ty) {v : Value} {d : DataW H} {ps : List MemPlace} (hf : fits P m t (.sl ty) = true) (h : DataW.Trod enc P w 0 sp held t v d ps) (hw : Light P t d) (ht : P.underlying t = some (.slice e)) :
    ∃ y : List (D ty), All2 (cr (fun b => b < w.heap.size) w (fun _ => none)) (toC (.sl ty) y) v.cells.toList ∧ given (.sl ty) y ∧ y.length + 1 ≤ Rows.uptoBulk d := by
  obtain ⟨fuel, h⟩ := h
  obtain ⟨y, h1, h2⟩ := trod_rv m t (.sl ty) fuel _ _ hf h hw
  refine ⟨y, toC_rv h1, h2, ?_⟩
  simp only [rv] at h1
  obtain ⟨a, cap, e1, -⟩ := h1
  rw [e1] at h
  rcases DataW.trod_slice ht h with ⟨e2, _⟩ | ⟨a', len, cap', elems, rest, n, e2, e3, e4, hb, hl, hc, he, hi, _, _⟩
  · simp only [List.cons.injEq, Value.slice.injEq, and_true] at e2
    have := bulk_one d
    omega
  · simp only [List.cons.injEq, Value.slice.injEq, and_true] at e3
    have h3 := bulk_len (elems.map (·.1))
    rw [List.length_map] at h3
    have e5 : d = .slice (elems.map (·.1)) (rest.map (·.1)) := congrArg Prod.fst e4
    rw [e5]
    simp only [Rows.uptoBulk]
    omega
end
end Go.Proofs.Ytajidgilfkineaa.Ev
