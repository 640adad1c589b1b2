/-
  Readings of arguments: cartons, plans.
-/
import Derived.Test.YtjmokahibcbjlaaDoorPl
import Derived.Test.YtjmokahibcbjlaaDoorRd
namespace Go.Proofs.YtjmokahibcbjlaaDoor
set_option linter.unusedVariables false
set_option linter.unusedSimpArgs false
open Go.RowKit Go.WideShapes Go.ChangeShapes Go.ChangeAt Go.Deep
set_option maxRecDepth 100000
theorem tells_Carton {H : Type} {enc : TypeId × Value → H} {w : World} {B : Nat} : Tells enc Tryd.prog w true 60 B 3 (RCarton 9223372036854775807) := fun n cs y h hB => by
  obtain ⟨hl, hf⟩ := trod_fields Tryd.underlying60 (by kernel_rfl) (by kernel_rfl) h
  obtain ⟨_, c0, _, g0, _, t0⟩ := hf 0 _ rfl
  obtain ⟨_, c1, _, g1, _, t1⟩ := hf 1 _ rfl
  obtain ⟨n2, c2, y2, g2, s2, t2⟩ := hf 2 _ rfl
  obtain ⟨a0, e0, _⟩ := DataW.trod_int Tryd.underlying3 t0
  obtain ⟨a1, e1, _⟩ := DataW.trod_int Tryd.underlying3 t1
  obtain ⟨v, xs, e2, hr⟩ := tells_slice Tryd.underlying47 (by kernel_rfl) (by omega) (tells_int Tryd.underlying3) t2 (fun p hp => hB p (s2 p hp))
  injection e0 with e0
  injection e1 with e1
  injection e2 with e2
  subst e0 e1 e2
  match cs, hl with
  | [d0, d1, d2], _ =>
    simp only [List.getElem?_cons_zero, List.getElem?_cons_succ, Option.some.injEq] at g0 g1 g2
    subst g0 g1 g2
    exact ⟨⟨a0, a1, xs⟩, rfl, _, rfl, hr⟩
theorem read_Plan {H : Type} {enc : TypeId × Value → H} {w : World} {b0 : Nat} {v : Value} {d : DataW H} {ps : List MemPlace} (hv : Value.okWide Tryd.prog w .any b0 31 v) (h : DataW.Trod enc Tryd.prog w 0 (fun _ => true) true 31 v d ps) (hlt : ∀ p ∈ ps, p.block < w.heap.size) :
    ∃ p, RPlan 9223372036854775807 w w.heap.size v p := by
  obtain ⟨cs, rfl, hsz⟩ := okWide_struct Tryd.underlying31 hv
  obtain ⟨n, hn⟩ := h
  obtain ⟨hl, hf⟩ := trod_fields Tryd.underlying31 (by kernel_rfl) (by kernel_rfl) hn
  obtain ⟨n0, c0, y0, g0, s0, t0⟩ := hf 0 _ rfl
  obtain ⟨n1, c1, y1, g1, s1, t1⟩ := hf 1 _ rfl
  obtain ⟨v0, xs, e0, hr0⟩ := tells_slice Tryd.underlying28 (by kernel_rfl) (by omega) tells_Carton t0 (fun p hp => hlt p (s0 p hp))
  obtain ⟨v1, ys, e1, hr1⟩ := tells_slice Tryd.underlying29 (by kernel_rfl) (by omega) tells_Spot t1 (fun p hp => hlt p (s1 p hp))
  injection e0 with e0
  injection e1 with e1
  subst e0 e1
  obtain ⟨l⟩ := cs
  match l, hl with
  | [d0, d1], _ =>
    simp only [Value.cells, List.getElem?_cons_zero, List.getElem?_cons_succ, Option.some.injEq] at g0 g1
    subst g0 g1
    exact ⟨⟨xs, ys⟩, _, _, rfl, hr0, hr1⟩
end Go.Proofs.YtjmokahibcbjlaaDoor
