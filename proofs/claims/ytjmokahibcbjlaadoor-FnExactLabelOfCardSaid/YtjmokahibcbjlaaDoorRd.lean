/-
  Readings of arguments: slices of flat structs. Written by wip/fam.py.
-/
import Derived.Test.YtjmokahibcbjlaaDoorFr
namespace Go.Proofs.YtjmokahibcbjlaaDoor
set_option linter.unusedVariables false
set_option linter.unusedSimpArgs false
open Go.RowKit Go.WideShapes Go.ChangeShapes Go.ChangeAt Go.Deep
set_option maxRecDepth 100000

theorem tells_Spot {H : Type} {enc : TypeId × Value → H} {w : World} {B : Nat} : Tells enc Tryd.prog w true 64 B 4 (flat Spot.cells) := fun n cs y h _ => by
  obtain ⟨ns, hl, rfl⟩ := trod_ints Tryd.underlying64 (by kernel_rfl) (by kernel_rfl) Tryd.underlying3 (fun j f hj => by
    have hj' := (Array.getElem?_eq_some_iff.1 hj).1
    match j, hj' with
    | 0, _ => simp at hj; rw [← hj]
    | 1, _ => simp at hj; rw [← hj]
    | 2, _ => simp at hj; rw [← hj]
    | 3, _ => simp at hj; rw [← hj]
    | j + 4, h => exact absurd h (by simp)) h
  match ns, hl with
  | [a0, a1, a2, a3], _ => exact ⟨⟨a0, a1, a2, a3⟩, rfl, rfl⟩
theorem read_SpotS {H : Type} {enc : TypeId × Value → H} {w : World} {b0 : Nat} {v : Value} {d : DataW H} {ps : List MemPlace} (hv : Value.okWide Tryd.prog w .any b0 29 v) (h : DataW.Trod enc Tryd.prog w 0 (fun _ => true) true 29 v d ps) (hlt : ∀ p ∈ ps, p.block < w.heap.size) :
    ∃ xs, RL 9223372036854775807 4 (flat Spot.cells) w w.heap.size v xs := read_slice Tryd.underlying29 (by kernel_rfl) (by omega) tells_Spot hv h hlt
end Go.Proofs.YtjmokahibcbjlaaDoor
