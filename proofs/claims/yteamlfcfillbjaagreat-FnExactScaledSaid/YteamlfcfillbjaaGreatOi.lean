/-
  Lists of numbers of the call's own, with their block.
-/
import Derived.Test.YteamlfcfillbjaaGreatPl
import Derived.Test.YteamlfcfillbjaaGreatAi
import Derived.Test.YteamlfcfillbjaaGreatSo
namespace Go.Proofs.YteamlfcfillbjaaGreat
set_option linter.unusedVariables false
set_option linter.unusedSimpArgs false
set_option maxRecDepth 100000
open Go.RowKit
/-- Blocks outside fp are as they were. -/
structure Tch (fp : List Nat) (w w' : World) : Prop where
  os : w'.os = w.os
  tape : w'.tape = w.tape
  output : w'.output = w.output
  size : w.heap.size ≤ w'.heap.size
  block : ∀ k, k < w.heap.size → k ∉ fp → w'.heap[k]? = w.heap[k]?
theorem Tch.refl (fp : List Nat) (w : World) : Tch fp w w := ⟨rfl, rfl, rfl, Nat.le_refl _, fun _ _ _ => rfl⟩
theorem Tch.trans {fp : List Nat} {a b c : World} (h : Tch fp a b) (k : Tch fp b c) : Tch fp a c :=
  ⟨k.os.trans h.os, k.tape.trans h.tape, k.output.trans h.output, Nat.le_trans h.size k.size, fun i hi hn => (k.block i (Nat.lt_of_lt_of_le hi h.size) hn).trans (h.block i hi hn)⟩
theorem Tch.sub {fp fp' : List Nat} {a b : World} (h : Tch fp a b) (hs : ∀ k ∈ fp, k ∈ fp') : Tch fp' a b := ⟨h.os, h.tape, h.output, h.size, fun i hi hn => h.block i hi (fun hm => hn (hs _ hm))⟩
theorem Tch.of {a b : World} (h : Below a.heap.size a b) (fp : List Nat) : Tch fp a b := ⟨h.os, h.tape, h.output, h.size, fun i hi _ => h.block i hi⟩
theorem Tch.below {fp : List Nat} {B : Nat} {a b : World} (h : Tch fp a b) (hB : B ≤ a.heap.size) (hf : ∀ k ∈ fp, B ≤ k) : Below B a b :=
  ⟨h.os, h.tape, h.output, h.size, fun k hk => h.block k (Nat.lt_of_lt_of_le hk hB) (fun hm => by have := hf k hm; omega)⟩
theorem Tch.setW {fp : List Nat} {a : World} {g : Nat} (hg : g ∈ fp) : ∀ (us : List Value) (w : World) (o : Nat), Tch fp a w → Tch fp a (setW w g o us)
  | [], _, _, h => h
  | u :: us, w, o, h => Tch.setW hg us _ _ ⟨h.os, h.tape, h.output, by simpa [World.setCell] using h.size, fun k hk hn => (Below.heap_setCell _ _ _ _ (fun e => hn (by rw [e]; exact hg))).trans (h.block k hk hn)⟩
theorem Tch.drew {fp : List Nat} {a w : World} (h : Tch fp a w) : Tch fp a w.drew := ⟨h.os, h.tape, h.output, h.size, h.block⟩
theorem Tch.alloc {fp : List Nat} {a w : World} (h : Tch fp a w) (o : Obj) : Tch fp a (w.alloc o) :=
  ⟨h.os, h.tape, h.output, Nat.le_trans h.size (by simp), fun k hk hn => (Below.heap_alloc _ _ _ (Nat.lt_of_lt_of_le hk h.size)).trans (h.block k hk hn)⟩
theorem OL.tch {α : Type} {e K : Nat} {E : World → List Value → α → List Nat → Prop} {w w' : World} {base : Nat} {v : Value} {xs : List α} {fp fp' : List Nat} (h : OL e K E w base v xs fp) (hE : EFr E) (ht : Tch fp' w w') (hd : ∀ b ∈ fp, b ∉ fp') : OL e K E w' base v xs fp :=
  h.keep hE ht.size fun b hb => ht.block b (h.lt b hb).2 (hd b hb)

/-- a list of numbers of the call's own -/
def OInts (w : World) (base : Nat) (v : Value) (xs : List Int) (fp : List Nat) : Prop := w.ownsRow base 3 1 v xs.length (xs.flatMap cI) ∧ fp = v.ownBlock.toList
theorem OInts.mk {w : World} {base : Nat} {v : Value} {xs : List Int} (h : w.ownsRow base 3 1 v xs.length (xs.flatMap cI)) : OInts w base v xs v.ownBlock.toList := ⟨h, rfl⟩
theorem OInts.lt {w : World} {base : Nat} {v : Value} {xs : List Int} {fp : List Nat} (h : OInts w base v xs fp) : ∀ b ∈ fp, base ≤ b ∧ b < w.heap.size := by
  obtain ⟨h, rfl⟩ := h
  exact fun b hb => h.lt b (ownBlock_mem hb)
theorem OInts.keep {w w' : World} {base : Nat} {v : Value} {xs : List Int} {fp : List Nat} (h : OInts w base v xs fp) (hk : ∀ b ∈ fp, w'.heap[b]? = w.heap[b]?) : OInts w' base v xs fp := by
  obtain ⟨h, rfl⟩ := h
  exact ⟨own_block h (fun b hb => hk b (mem_ownBlock hb)), rfl⟩
theorem OInts.next {w w' : World} {base : Nat} {v : Value} {xs : List Int} {fp : List Nat} (h : OInts w base v xs fp) (hb : Below w.heap.size w w') : OInts w' base v xs fp := h.keep fun b hm => hb.block b (h.lt b hm).2
theorem OInts.read {w : World} {base : Nat} {v : Value} {xs : List Int} {fp : List Nat} (h : OInts w base v xs fp) (hl : xs.length ≤ 16777216) : RInts 16777216 w w.heap.size v xs := own_ints h.1 hl
theorem OInts.tch {w w' : World} {base : Nat} {v : Value} {xs : List Int} {fp fp' : List Nat} (h : OInts w base v xs fp) (ht : Tch fp' w w') (hd : ∀ b ∈ fp, b ∈ fp' → False) : OInts w' base v xs fp :=
  h.keep fun b hb => ht.block b (h.lt b hb).2 (hd b hb)
theorem OInts.form {w : World} {base : Nat} {v : Value} {xs : List Int} {fp : List Nat} (h : OInts w base v xs fp) : ∃ A c, v = .slice A xs.length c ∧ xs.length ≤ c := own_form2 h.1
theorem OInts.base {w : World} {base B : Nat} {v : Value} {xs : List Int} {fp : List Nat} (h : OInts w base v xs fp) (hB : B ≤ base) : OInts w B v xs fp := ⟨own_base h.1 hB, h.2⟩
/-- the call hands back a list of numbers of its own -/
def MInts (w : World) (xs : List Int) (e : Ending) (w' : World) : Prop := ∃ v' fp, e = .returned v' ∧ OInts w' w.heap.size v' xs fp ∧ Below w.heap.size w w'
theorem MInts.mk {w w' : World} {B : Nat} {v : Value} {xs : List Int} {fp : List Nat} (ho : OInts w' B v xs fp) (hB : w.heap.size ≤ B) (hb : Below w.heap.size w w') : MInts w xs (.returned v) w' := ⟨v, fp, rfl, ho.base hB, hb⟩
theorem MInts.row {w w' : World} {B : Nat} {v : Value} {xs : List Int} (ho : w'.ownsRow B 3 1 v xs.length (xs.flatMap cI)) (hB : w.heap.size ≤ B) (hb : Below w.heap.size w w') : MInts w xs (.returned v) w' := MInts.mk (OInts.mk ho) hB hb
theorem after_alloc {w w' : World} {o : Obj} {B : Nat} (hB : B ≤ w.heap.size) (h : Below B (w.alloc o) w') : Below B w w' := ((Below.refl B w).alloc hB o).trans h
theorem own_nil {α : Type} {f : α → List Value} {w : World} {base e K g : Nat} (hb : base ≤ g) (h : w.heap[g]? = some (.cells #[] e (0, 0))) : w.ownsRow base e K (.slice (some ⟨g, 0, none⟩) 0 0) ([] : List α).length (([] : List α).flatMap f) := own_empty hb h
def ints (ps : List Nat) : List Int := ps.map fun (i : Nat) => (i : Int)
theorem ints_length (ps : List Nat) : (ints ps).length = ps.length := List.length_map ..
theorem ints_get {ps : List Nat} {i p : Nat} (h : ps[i]? = some p) : (ints ps)[i]? = some (p : Int) := by unfold ints; rw [List.getElem?_map, h]; rfl
theorem ints_get' {ps : List Nat} {i : Nat} {x : Int} (h : (ints ps)[i]? = some x) : ∃ p, ps[i]? = some p ∧ x = (p : Int) := by
  unfold ints at h
  rw [List.getElem?_map] at h
  cases hp : ps[i]? with
  | none => rw [hp] at h; simp at h
  | some p => rw [hp] at h; simp at h; exact ⟨p, rfl, h.symm⟩
end Go.Proofs.YteamlfcfillbjaaGreat
