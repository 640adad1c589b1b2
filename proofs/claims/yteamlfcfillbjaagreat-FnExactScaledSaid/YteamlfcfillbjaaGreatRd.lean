/-
  Readings of arguments: slices of flat structs. Written by wip/fam.py.
-/
import Derived.Test.YteamlfcfillbjaaGreatFr
namespace Go.Proofs.YteamlfcfillbjaaGreat
set_option linter.unusedVariables false
set_option linter.unusedSimpArgs false
set_option maxRecDepth 100000
open Go.RowKit Go.WideShapes Go.ChangeShapes Go.ChangeAt Go.Deep
set_option maxRecDepth 100000

theorem tells_Pair {H : Type} {enc : TypeId × Value → H} {w : World} {B : Nat} : Tells enc Tryz.prog w true 83 B 2 (flat Pair.cells) := fun n cs y h _ => by
  obtain ⟨ns, hl, rfl⟩ := trod_ints Tryz.underlying83 (by kernel_rfl) (by kernel_rfl) Tryz.underlying3 (fun j f hj => by
    have hj' := (Array.getElem?_eq_some_iff.1 hj).1
    match j, hj' with
    | 0, _ => simp at hj; rw [← hj]
    | 1, _ => simp at hj; rw [← hj]
    | j + 2, h => exact absurd h (by simp)) h
  match ns, hl with
  | [a0, a1], _ => exact ⟨⟨a0, a1⟩, rfl, rfl⟩
theorem read_PairS {H : Type} {enc : TypeId × Value → H} {w : World} {b0 : Nat} {v : Value} {d : DataW H} {ps : List MemPlace} (hv : Value.okWide Tryz.prog w .any b0 24 v) (h : DataW.Trod enc Tryz.prog w 0 (fun _ => true) true 24 v d ps) (hlt : ∀ p ∈ ps, p.block < w.heap.size) :
    ∃ xs, RL 9223372036854775807 2 (flat Pair.cells) w w.heap.size v xs := read_slice Tryz.underlying24 (by kernel_rfl) (by omega) tells_Pair hv h hlt
theorem tells_Type {H : Type} {enc : TypeId × Value → H} {w : World} {B : Nat} : Tells enc Tryz.prog w true 85 B 7 (flat GType.cells) := fun n cs y h _ => by
  obtain ⟨ns, hl, rfl⟩ := trod_ints Tryz.underlying85 (by kernel_rfl) (by kernel_rfl) Tryz.underlying3 (fun j f hj => by
    have hj' := (Array.getElem?_eq_some_iff.1 hj).1
    match j, hj' with
    | 0, _ => simp at hj; rw [← hj]
    | 1, _ => simp at hj; rw [← hj]
    | 2, _ => simp at hj; rw [← hj]
    | 3, _ => simp at hj; rw [← hj]
    | 4, _ => simp at hj; rw [← hj]
    | 5, _ => simp at hj; rw [← hj]
    | 6, _ => simp at hj; rw [← hj]
    | j + 7, h => exact absurd h (by simp)) h
  match ns, hl with
  | [a0, a1, a2, a3, a4, a5, a6], _ => exact ⟨⟨a0, a1, a2, a3, a4, a5, a6⟩, rfl, rfl⟩
theorem read_TypeS {H : Type} {enc : TypeId × Value → H} {w : World} {b0 : Nat} {v : Value} {d : DataW H} {ps : List MemPlace} (hv : Value.okWide Tryz.prog w .any b0 25 v) (h : DataW.Trod enc Tryz.prog w 0 (fun _ => true) true 25 v d ps) (hlt : ∀ p ∈ ps, p.block < w.heap.size) :
    ∃ xs, RL 9223372036854775807 7 (flat GType.cells) w w.heap.size v xs := read_slice Tryz.underlying25 (by kernel_rfl) (by omega) tells_Type hv h hlt
theorem tells_Item {H : Type} {enc : TypeId × Value → H} {w : World} {B : Nat} : Tells enc Tryz.prog w true 30 B 7 (flat Item.cells) := fun n cs y h _ => by
  obtain ⟨ns, hl, rfl⟩ := trod_ints Tryz.underlying30 (by kernel_rfl) (by kernel_rfl) Tryz.underlying3 (fun j f hj => by
    have hj' := (Array.getElem?_eq_some_iff.1 hj).1
    match j, hj' with
    | 0, _ => simp at hj; rw [← hj]
    | 1, _ => simp at hj; rw [← hj]
    | 2, _ => simp at hj; rw [← hj]
    | 3, _ => simp at hj; rw [← hj]
    | 4, _ => simp at hj; rw [← hj]
    | 5, _ => simp at hj; rw [← hj]
    | 6, _ => simp at hj; rw [← hj]
    | j + 7, h => exact absurd h (by simp)) h
  match ns, hl with
  | [a0, a1, a2, a3, a4, a5, a6], _ => exact ⟨⟨a0, a1, a2, a3, a4, a5, a6⟩, rfl, rfl⟩
theorem read_ItemS {H : Type} {enc : TypeId × Value → H} {w : World} {b0 : Nat} {v : Value} {d : DataW H} {ps : List MemPlace} (hv : Value.okWide Tryz.prog w .any b0 26 v) (h : DataW.Trod enc Tryz.prog w 0 (fun _ => true) true 26 v d ps) (hlt : ∀ p ∈ ps, p.block < w.heap.size) :
    ∃ xs, RL 9223372036854775807 7 (flat Item.cells) w w.heap.size v xs := read_slice Tryz.underlying26 (by kernel_rfl) (by omega) tells_Item hv h hlt
end Go.Proofs.YteamlfcfillbjaaGreat
