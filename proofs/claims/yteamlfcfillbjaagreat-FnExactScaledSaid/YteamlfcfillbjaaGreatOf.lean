/-
  Lists of flat elements of the call's own, with their block; a box of the call's own that is written between calls. No function is named here.
-/
import Derived.Test.YteamlfcfillbjaaGreatRq
import Derived.Test.YteamlfcfillbjaaGreatOi
namespace Go.Proofs.YteamlfcfillbjaaGreat
set_option linter.unusedVariables false
set_option linter.unusedSimpArgs false
set_option maxRecDepth 100000
open Go.RowKit
/-- a list of flat elements of the call's own; fp: its block -/
def OF {α : Type} (f : α → List Value) (e K : Nat) (w : World) (base : Nat) (v : Value) (xs : List α) (fp : List Nat) : Prop := w.ownsRow base e K v xs.length (xs.flatMap f) ∧ fp = v.ownBlock.toList
section
variable {α : Type} {f : α → List Value} {e K : Nat} {w w' : World} {bs B : Nat} {v : Value} {xs : List α} {fp fp' : List Nat}
theorem OF.mk (h : w.ownsRow bs e K v xs.length (xs.flatMap f)) : OF f e K w bs v xs v.ownBlock.toList := ⟨h, rfl⟩
theorem OF.lt (h : OF f e K w bs v xs fp) : ∀ b ∈ fp, bs ≤ b ∧ b < w.heap.size := by
  obtain ⟨h, rfl⟩ := h
  exact fun b hb => h.lt b (ownBlock_mem hb)
theorem OF.nodup (h : OF f e K w bs v xs fp) : fp.Nodup := by obtain ⟨_, rfl⟩ := h; cases v.ownBlock <;> simp
theorem OF.keep (h : OF f e K w bs v xs fp) (hk : ∀ b ∈ fp, w'.heap[b]? = w.heap[b]?) : OF f e K w' bs v xs fp := by
  obtain ⟨h, rfl⟩ := h
  exact ⟨own_block h (fun b hb => hk b (mem_ownBlock hb)), rfl⟩
theorem OF.next (h : OF f e K w bs v xs fp) (hb : Below w.heap.size w w') : OF f e K w' bs v xs fp := h.keep fun b hm => hb.block b (h.lt b hm).2
theorem OF.tch (h : OF f e K w bs v xs fp) (ht : Tch fp' w w') (hd : ∀ b ∈ fp, b ∈ fp' → False) : OF f e K w' bs v xs fp := h.keep fun b hb => ht.block b (h.lt b hb).2 (hd b hb)
theorem OF.form (h : OF f e K w bs v xs fp) : ∃ A c, v = .slice A xs.length c ∧ xs.length ≤ c := own_form2 h.1
theorem OF.base (h : OF f e K w bs v xs fp) (hB : B ≤ bs) : OF f e K w B v xs fp := ⟨own_base h.1 hB, h.2⟩
theorem OF.read (h : OF f e K w bs v xs fp) (hK : ∀ x, (f x).length = K) {bd : Nat} (hl : xs.length ≤ bd) : RL bd K (flat f) w w.heap.size v xs :=
  OL.read (OL_of_own h.1 hK) (fun cs x f h h' => eflat_read cs x f h h') hl
end
/-- A box of the call's own (block g, its cells cs) in a later world: all blocks below B but g are as they were in W. -/
structure AtB (B : Nat) (W : World) (g : Nat) (t : TypeId) (cs : Array Value) (w : World) : Prop where
  os : w.os = W.os
  tape : w.tape = W.tape
  output : w.output = W.output
  size : W.heap.size ≤ w.heap.size
  block : ∀ k, k < B → k ≠ g → w.heap[k]? = W.heap[k]?
  blk : w.heap[g]? = some (.cells cs t (0, 0))
section
variable {B : Nat} {W w w' : World} {g : Nat} {t : TypeId} {cs : Array Value}
theorem AtB.here (h : W.heap[g]? = some (.cells cs t (0, 0))) : AtB B W g t cs W := ⟨rfl, rfl, rfl, Nat.le_refl _, fun _ _ _ => rfl, h⟩
theorem AtB.next (h : AtB B W g t cs w) (hb : Below w.heap.size w w') (hB : B ≤ W.heap.size) : AtB B W g t cs w' :=
  ⟨hb.os.trans h.os, hb.tape.trans h.tape, hb.output.trans h.output, Nat.le_trans h.size hb.size, fun k hk hn => (hb.block k (Nat.lt_of_lt_of_le hk (Nat.le_trans hB h.size))).trans (h.block k hk hn), (hb.block g (lt_of_block h.blk)).trans h.blk⟩
theorem AtB.store (h : AtB B W g t cs w) (j : Nat) (u : Value) : AtB B W g t (cs.setIfInBounds j u) (w.setCell ⟨g, j, none⟩ u) :=
  ⟨h.os, h.tape, h.output, by have := h.size; simpa [World.setCell] using this, fun k hk hn => (Below.heap_setCell _ _ _ _ hn).trans (h.block k hk hn), heap_setCell_same w g j _ _ _ h.blk⟩
theorem AtB.cells (h : AtB B W g t cs w) (j : Nat) : w.cell? ⟨g, j, none⟩ = cs[j]? := cell_of_row _ _ j _ _ (0, 0) h.blk
theorem AtB.free (h : AtB B W g t cs w) (j : Nat) : w.frozen? ⟨g, j, none⟩ = false := frozen_of_row _ _ j _ _ h.blk
theorem AtB.old (h : AtB B W g t cs w) {b : Nat} (hb : b < B) (hn : b ≠ g) {o : Obj} (ho : W.heap[b]? = some o) : w.heap[b]? = some o := (h.block b hb hn).trans ho
theorem AtB.oldc (h : AtB B W g t cs w) {b : Nat} (hb : b < B) (hn : b ≠ g) {c : Array Value} {t' : TypeId} (ho : W.heap[b]? = some (.cells c t' (0, 0))) (j : Nat) : w.cell? ⟨b, j, none⟩ = c[j]? := cell_of_row _ _ j _ _ (0, 0) (h.old hb hn ho)
theorem AtB.oldf (h : AtB B W g t cs w) {b : Nat} (hb : b < B) (hn : b ≠ g) {c : Array Value} {t' : TypeId} (ho : W.heap[b]? = some (.cells c t' (0, 0))) (j : Nat) : w.frozen? ⟨b, j, none⟩ = false := frozen_of_row _ _ j _ _ (h.old hb hn ho)
theorem AtB.lt (h : AtB B W g t cs w) : g < w.heap.size := lt_of_block h.blk
/-- what was there before the call is as it was -/
theorem AtB.low (h : AtB B W g t cs w) {w0 : World} (h0 : Below w0.heap.size w0 W) (hB : w0.heap.size ≤ B) (hg : w0.heap.size ≤ g) : Below w0.heap.size w0 w :=
  ⟨h.os.trans h0.os, h.tape.trans h0.tape, h.output.trans h0.output, Nat.le_trans h0.size h.size, fun k hk => (h.block k (Nat.lt_of_lt_of_le hk hB) (by omega)).trans (h0.block k hk)⟩
end
theorem below_setW {B : Nat} {a w : World} {g : Nat} (h : Below B a w) (hg : B ≤ g) (us : List Value) (o : Nat) : Below B a (setW w g o us) := Below.setW hg us w o h
end Go.Proofs.YteamlfcfillbjaaGreat
