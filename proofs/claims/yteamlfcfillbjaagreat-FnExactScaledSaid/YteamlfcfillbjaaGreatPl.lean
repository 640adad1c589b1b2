/-
  The walks over the laws' helpers for cartons and plans: sizes, copies, comparisons.
-/
import Derived.Test.YteamlfcfillbjaaGreatCt
namespace Go.Proofs.YteamlfcfillbjaaGreat
set_option linter.unusedVariables false
set_option linter.unusedSimpArgs false
set_option maxRecDepth 100000
open Go.RowKit
def RCarton (bd : Nat) : World → Nat → List Value → Carton → Prop := fun w B cs x => ∃ v, cs = [.int .i64 x.type, .int .i64 x.group, v] ∧ RInts bd w B v x.units
theorem RCarton_mono (bd : Nat) : RMono (RCarton bd) := fun _ _ _ _ _ _ hk hB ⟨v, h1, h2⟩ => ⟨v, h1, h2.keep (flat_mono _) hk hB⟩
abbrev RCartons (bd : Nat) (w : World) (B : Nat) (v : Value) (xs : List Carton) : Prop := RL bd 3 (RCarton bd) w B v xs
abbrev RSpots (bd : Nat) (w : World) (B : Nat) (v : Value) (xs : List Spot) : Prop := RL bd 4 (flat Spot.cells) w B v xs
def RPlan (bd : Nat) (w : World) (B : Nat) (v : Value) (p : Plan) : Prop := ∃ v1 v2, v = .agg #[v1, v2] ∧ RCartons bd w B v1 p.cartons ∧ RSpots bd w B v2 p.spots
theorem RPlan.keep {bd : Nat} {w w' : World} {B B' : Nat} {v : Value} {p : Plan} (h : RPlan bd w B v p) (hk : ∀ q : Addr, q.block < B → w'.cell? q = w.cell? q) (hB : B ≤ B') : RPlan bd w' B' v p := by
  obtain ⟨v1, v2, rfl, h1, h2⟩ := h
  exact ⟨v1, v2, rfl, h1.keep (RCarton_mono bd) hk hB, h2.keep (flat_mono _) hk hB⟩
/-- carried to a later world, its bound the later heap -/
theorem RPlan.next {bd : Nat} {w w' : World} {v : Value} {p : Plan} (h : RPlan bd w w.heap.size v p) (hb : Below w.heap.size w w') : RPlan bd w' w'.heap.size v p := h.keep (fun _ hp => hb.cell hp) hb.size
/-- how much a plan holds -/
def Plan.bulk (p : Plan) : Nat := p.cartons.length + tot (fun c => c.units.length) p.cartons + p.spots.length
theorem units_le {p : Plan} {c : Carton} (h : c ∈ p.cartons) : c.units.length ≤ p.bulk := by
  obtain ⟨i, hi⟩ := List.mem_iff_getElem?.1 h
  have := tot_ge (fun c : Carton => c.units.length) hi
  unfold Plan.bulk
  omega
theorem RCarton.wide {bd bd' : Nat} {w : World} {B : Nat} {cs : List Value} {x : Carton} (h : RCarton bd w B cs x) (hb : x.units.length ≤ bd') : RCarton bd' w B cs x := by
  obtain ⟨v, h1, h2⟩ := h
  exact ⟨v, h1, h2.wide hb⟩
theorem RPlan.wide {bd bd' : Nat} {w : World} {B : Nat} {v : Value} {p : Plan} (h : RPlan bd w B v p) (hb : p.bulk ≤ bd') : RPlan bd' w B v p := by
  obtain ⟨v1, v2, rfl, h1, h2⟩ := h
  exact ⟨v1, v2, rfl, h1.weaken (by unfold Plan.bulk at hb; omega) (fun cs x hx hc => hc.wide (Nat.le_trans (units_le hx) hb)), h2.wide (by unfold Plan.bulk at hb; omega)⟩

/-- a carton whose units the call owns -/
def ECarton : World → List Value → Carton → List Nat → Prop := fun w cs x f => ∃ v, cs = [.int .i64 x.type, .int .i64 x.group, v] ∧ w.ownsRow 0 3 1 v x.units.length (x.units.flatMap cI) ∧ f = v.ownBlock.toList
theorem mem_ownBlock {v : Value} {g : Nat} (h : v.ownBlock = some g) : g ∈ v.ownBlock.toList := by rw [h]; simp
theorem ownBlock_mem {v : Value} {g : Nat} (h : g ∈ v.ownBlock.toList) : v.ownBlock = some g := by cases hv : v.ownBlock <;> simp [hv] at h; rw [h]
theorem ECarton_fr : EFr ECarton := fun _ _ _ _ _ hk ⟨v, h1, h2, h3⟩ => ⟨v, h1, own_block h2 (fun g hg => hk g (by rw [h3]; exact mem_ownBlock hg)), h3⟩
theorem own_ints {w : World} {base e : Nat} {v : Value} {xs : List Int} (h : w.ownsRow base e 1 v xs.length (xs.flatMap cI)) (hl : xs.length ≤ 16777216) : RInts 16777216 w w.heap.size v xs :=
  OL.read (OL_of_own h (fun _ => rfl)) (fun cs x f h h' => eflat_read cs x f h h') hl
theorem ECarton_read {w : World} (cs : List Value) (x : Carton) (f : List Nat) (h : ECarton w cs x f) (_ : ∀ b ∈ f, b < w.heap.size) (hl : x.units.length ≤ 16777216) : RCarton 16777216 w w.heap.size cs x := by
  obtain ⟨v, h1, h2, h3⟩ := h
  exact ⟨v, h1, own_ints h2 hl⟩
theorem OL.base {α : Type} {e K : Nat} {E : World → List Value → α → List Nat → Prop} {w : World} {B B' : Nat} {v : Value} {xs : List α} {fp : List Nat} (h : OL e K E w B v xs fp) (hB : B' ≤ B) : OL e K E w B' v xs fp := by
  obtain ⟨cs, ifp, h1, h2, h3, h4, h5⟩ := h
  exact ⟨cs, ifp, own_base h1 hB, h2, h3, fun b hb => ⟨Nat.le_trans hB (h4 b hb).1, (h4 b hb).2⟩, h5⟩
theorem OL.form {α : Type} {e K : Nat} {E : World → List Value → α → List Nat → Prop} {w : World} {B : Nat} {v : Value} {xs : List α} {fp : List Nat} (h : OL e K E w B v xs fp) : ∃ A c, v = .slice A xs.length c := by
  obtain ⟨cs, ifp, h1, _⟩ := h
  exact own_form h1
end Go.Proofs.YteamlfcfillbjaaGreat
