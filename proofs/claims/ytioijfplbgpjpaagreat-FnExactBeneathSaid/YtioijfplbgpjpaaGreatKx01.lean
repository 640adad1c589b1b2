/-
  append at the element types of this program, said of lists: one element just laid; a whole slice that reads as a list. Written by wip/aifam.py.
-/
import Derived.Test.YtioijfplbgpjpaaGreatKx00
import Derived.Test.YtioijfplbgpjpaaGreatRows
import Derived.ProofKit
import Derived.OpenShut
import Derived.ShutString
import Derived.WideKeyArgs
import Derived.Carry
import Derived.Deep.Slices
import Derived.Deep.Fields
import Derived.Deep.Strs
import Derived.ChangeSame
namespace Go.Proofs.YtioijfplbgpjpaaGreat
set_option linter.unusedVariables false
set_option linter.unusedSimpArgs false
set_option maxRecDepth 100000
open Go.RowKit
theorem grown_below {base e size n : Nat} {w w' : World} {v : Value} {xs : List Value} (ho : w.ownsRow base e size v n xs) (hg : w.grownBy w' v.ownBlock) (hB : base ≤ w.heap.size) : Below base w w' := below_grown (Below.refl _ _) ho hg hB
theorem one_Int : ∀ (y : Int), ∀ u ∈ cI y, u.oneCell' = true := fun y u hu => by simp [cI] at hu; subst hu; rfl
theorem app_Int {ops : Array Oper} {rest : List Oper} {o : Oper} {a : Act} {Q : Exit → Act → World → Prop} {w0 : World} (s x : Operand) (hgd : o.guard = none)
  (ho : o.op = .call { callee := .builtin .append, args := #[s, x], argTypes := #[53, 53] }) {base : Nat} {v : Value} {xs : List Int} (y : Int) {news : Array Value} {N : Nat} (hs : a.eval s = v)
  (hx : a.eval x = .slice (some ⟨N, 0, none⟩) 1 1) (hN : N = w0.heap.size) (hy : news = (cI y).toArray) (hown : w0.ownsRow base 3 1 v xs.length (xs.flatMap cI)) (hl : xs.length < 16777216) (hbase : base ≤ w0.heap.size)
  (h : ∀ v' w', w'.ownsRow base 3 1 v' (xs ++ [y]).length ((xs ++ [y]).flatMap cI) → Below base w0 w' → w0.grownBy w' v.ownBlock → (v'.ownBlock = v.ownBlock ∨ ∃ g, v'.ownBlock = some g ∧ w0.heap.size ≤ g) → wpList Tryz.prog ops Q rest (a.put o.dst v') w') :
  wpList Tryz.prog ops Q (o :: rest) a (w0.alloc (.cells news 3)) := by
 obtain ⟨i0, hi, hz0, hz1, hz2⟩ := info_parts info_int
 subst hy
 exact wpList_app1 w0 hgd s x 53 ho base 3 i0 _ 1 8 Tryz.underlying53 hi hz0 hz1 hz2 rfl (by omega) v _ _ hs hown _ N hx hN rfl (fun u hu => one_Int y u (by simpa using hu)) (by unfold maxLen; omega) (by omega) hbase
  (fun v' w' h1 h2 h3 => h v' w' (by simpa using h1) (grown_below hown h2 hbase) h2 h3)
theorem appAll_Int {ops : Array Oper} {rest : List Oper} {o : Oper} {a : Act} {Q : Exit → Act → World → Prop} {w : World} (s x : Operand) (hgd : o.guard = none)
  (ho : o.op = .call { callee := .builtin .append, args := #[s, x], argTypes := #[53, 53] }) {base bd B : Nat} {v : Value} {xs ys : List Int} {A : Option Addr} {m c : Nat} (hs : a.eval s = v)
  (hx : a.eval x = .slice A m c) (hr : RL bd 1 (flat cI) w B (.slice A m c) ys) (hown : w.ownsRow base 3 1 v xs.length (xs.flatMap cI)) (hl : xs.length + ys.length ≤ 33554432) (hbase : base ≤ w.heap.size)
  (h : ∀ v' w', w'.ownsRow base 3 1 v' (xs ++ ys).length ((xs ++ ys).flatMap cI) → Below base w w' → w.grownBy w' v.ownBlock → (v'.ownBlock = v.ownBlock ∨ v'.ownBlock = some w.heap.size) → wpList Tryz.prog ops Q rest (a.put o.dst v') w') :
  wpList Tryz.prog ops Q (o :: rest) a w := by
 obtain ⟨i0, hi, hz0, hz1, hz2⟩ := info_parts info_int
 have hm := hr.len_cap.1
 exact wpList_appAll w hgd s x 53 ho base 3 i0 _ 1 8 Tryz.underlying53 hi hz0 hz1 hz2 rfl (by omega) v _ _ hs hown bd B cI A m c ys hx hr hm (fun _ => rfl) one_Int (by unfold maxLen; omega) (by omega) hbase
  (fun v' w' h1 h2 h3 => h v' w' (by rw [List.length_append, List.flatMap_append, ← hm]; exact h1) (grown_below hown h2 hbase) h2 h3)
theorem one_Item : ∀ (y : Item), ∀ u ∈ Item.cells y, u.oneCell' = true := fun y u hu => by simp [Item.cells] at hu; rcases hu with rfl | rfl | rfl | rfl | rfl | rfl | rfl <;> rfl
theorem one_Box : ∀ (y : Box), ∀ u ∈ Box.cells y, u.oneCell' = true := fun y u hu => by simp [Box.cells] at hu; rcases hu with rfl | rfl | rfl | rfl <;> rfl
end Go.Proofs.YtioijfplbgpjpaaGreat
namespace Go.Proofs.YtioijfplbgpjpaaGreat
set_option linter.unusedVariables false
set_option linter.unusedSimpArgs false
set_option maxRecDepth 100000
open Go.RowKit
structure Tch (fp : List Nat) (w w' : World) : Prop where
 os : w'.os = w.os
 tape : w'.tape = w.tape
 output : w'.output = w.output
 size : w.heap.size ≤ w'.heap.size
 block : ∀ k, k < w.heap.size → k ∉ fp → w'.heap[k]? = w.heap[k]?
theorem Tch.refl (fp : List Nat) (w : World) : Tch fp w w := ⟨rfl, rfl, rfl, Nat.le_refl _, fun _ _ _ => rfl⟩
theorem Tch.trans {fp : List Nat} {a b c : World} (h : Tch fp a b) (k : Tch fp b c) : Tch fp a c :=
 ⟨k.os.trans h.os, k.tape.trans h.tape, k.output.trans h.output, Nat.le_trans h.size k.size, fun i hi hn => (k.block i (Nat.lt_of_lt_of_le hi h.size) hn).trans (h.block i hi hn)⟩
theorem Tch.sub {fp fp' : List Nat} {a b : World} (h : Tch fp a b) (hs : ∀ k ∈ fp, k ∈ fp') : Tch fp' a b := ⟨h.os, h.tape, h.output, h.size, fun i hi hn => h.block i hi (fun hm => hn (hs _ hm))⟩
theorem Tch.of {a b : World} (h : Below a.heap.size a b) (fp : List Nat) : Tch fp a b := ⟨h.os, h.tape, h.output, h.size, fun i hi _ => h.block i hi⟩
theorem Tch.below {fp : List Nat} {B : Nat} {a b : World} (h : Tch fp a b) (hB : B ≤ a.heap.size) (hf : ∀ k ∈ fp, B ≤ k) : Below B a b :=
 ⟨h.os, h.tape, h.output, h.size, fun k hk => h.block k (Nat.lt_of_lt_of_le hk hB) (fun hm => by have := hf k hm; omega)⟩
theorem Tch.setW {fp : List Nat} {a : World} {g : Nat} (hg : g ∈ fp) : ∀ (us : List Value) (w : World) (o : Nat), Tch fp a w → Tch fp a (setW w g o us)
 |[], _, _, h => h
 |u :: us, w, o, h => Tch.setW hg us _ _ ⟨h.os, h.tape, h.output, by simpa [World.setCell] using h.size, fun k hk hn => (Below.heap_setCell _ _ _ _ (fun e => hn (by rw [e]; exact hg))).trans (h.block k hk hn)⟩
theorem Tch.drew {fp : List Nat} {a w : World} (h : Tch fp a w) : Tch fp a w.drew := ⟨h.os, h.tape, h.output, h.size, h.block⟩
theorem Tch.alloc {fp : List Nat} {a w : World} (h : Tch fp a w) (o : Obj) : Tch fp a (w.alloc o) :=
 ⟨h.os, h.tape, h.output, Nat.le_trans h.size (by simp), fun k hk hn => (Below.heap_alloc _ _ _ (Nat.lt_of_lt_of_le hk h.size)).trans (h.block k hk hn)⟩
theorem OL.tch {α : Type} {e K : Nat} {E : World → List Value → α → List Nat → Prop} {w w' : World} {base : Nat} {v : Value} {xs : List α} {fp fp' : List Nat} (h : OL e K E w base v xs fp) (hE : EFr E) (ht : Tch fp' w w') (hd : ∀ b ∈ fp, b ∉ fp') : OL e K E w' base v xs fp :=
 h.keep hE ht.size fun b hb => ht.block b (h.lt b hb).2 (hd b hb)
def OInts (w : World) (base : Nat) (v : Value) (xs : List Int) (fp : List Nat) : Prop := w.ownsRow base 3 1 v xs.length (xs.flatMap cI) ∧ fp = v.ownBlock.toList
theorem OInts.mk {w : World} {base : Nat} {v : Value} {xs : List Int} (h : w.ownsRow base 3 1 v xs.length (xs.flatMap cI)) : OInts w base v xs v.ownBlock.toList := ⟨h, rfl⟩
theorem OInts.lt {w : World} {base : Nat} {v : Value} {xs : List Int} {fp : List Nat} (h : OInts w base v xs fp) : ∀ b ∈ fp, base ≤ b ∧ b < w.heap.size := by
 obtain ⟨h, rfl⟩ := h
 exact fun b hb => h.lt b (ownBlock_mem hb)
theorem OInts.keep {w w' : World} {base : Nat} {v : Value} {xs : List Int} {fp : List Nat} (h : OInts w base v xs fp) (hk : ∀ b ∈ fp, w'.heap[b]? = w.heap[b]?) : OInts w' base v xs fp := by
 obtain ⟨h, rfl⟩ := h
 exact ⟨own_block h (fun b hb => hk b (mem_ownBlock hb)), rfl⟩
theorem OInts.next {w w' : World} {base : Nat} {v : Value} {xs : List Int} {fp : List Nat} (h : OInts w base v xs fp) (hb : Below w.heap.size w w') : OInts w' base v xs fp := h.keep fun b hm => hb.block b (h.lt b hm).2
theorem OInts.read {w : World} {base : Nat} {v : Value} {xs : List Int} {fp : List Nat} (h : OInts w base v xs fp) (hl : xs.length ≤ 16777216) : RInts 16777216 w w.heap.size v xs := own_ints h.1 hl
theorem OInts.tch {w w' : World} {base : Nat} {v : Value} {xs : List Int} {fp fp' : List Nat} (h : OInts w base v xs fp) (ht : Tch fp' w w') (hd : ∀ b ∈ fp, b ∈ fp' → False) : OInts w' base v xs fp :=
 h.keep fun b hb => ht.block b (h.lt b hb).2 (hd b hb)
theorem OInts.form {w : World} {base : Nat} {v : Value} {xs : List Int} {fp : List Nat} (h : OInts w base v xs fp) : ∃ A c, v = .slice A xs.length c ∧ xs.length ≤ c := own_form2 h.1
theorem OInts.base {w : World} {base B : Nat} {v : Value} {xs : List Int} {fp : List Nat} (h : OInts w base v xs fp) (hB : B ≤ base) : OInts w B v xs fp := ⟨own_base h.1 hB, h.2⟩
def MInts (w : World) (xs : List Int) (e : Ending) (w' : World) : Prop := ∃ v' fp, e = .returned v' ∧ OInts w' w.heap.size v' xs fp ∧ Below w.heap.size w w'
theorem MInts.mk {w w' : World} {B : Nat} {v : Value} {xs : List Int} {fp : List Nat} (ho : OInts w' B v xs fp) (hB : w.heap.size ≤ B) (hb : Below w.heap.size w w') : MInts w xs (.returned v) w' := ⟨v, fp, rfl, ho.base hB, hb⟩
theorem MInts.row {w w' : World} {B : Nat} {v : Value} {xs : List Int} (ho : w'.ownsRow B 3 1 v xs.length (xs.flatMap cI)) (hB : w.heap.size ≤ B) (hb : Below w.heap.size w w') : MInts w xs (.returned v) w' := MInts.mk (OInts.mk ho) hB hb
theorem after_alloc {w w' : World} {o : Obj} {B : Nat} (hB : B ≤ w.heap.size) (h : Below B (w.alloc o) w') : Below B w w' := ((Below.refl B w).alloc hB o).trans h
theorem own_nil {α : Type} {f : α → List Value} {w : World} {base e K g : Nat} (hb : base ≤ g) (h : w.heap[g]? = some (.cells #[] e (0, 0))) : w.ownsRow base e K (.slice (some ⟨g, 0, none⟩) 0 0) ([] : List α).length (([] : List α).flatMap f) := own_empty hb h
def ints (ps : List Nat) : List Int := ps.map fun (i : Nat) => (i : Int)
theorem ints_length (ps : List Nat) : (ints ps).length = ps.length := List.length_map ..
theorem ints_get {ps : List Nat} {i p : Nat} (h : ps[i]? = some p) : (ints ps)[i]? = some (p : Int) := by unfold ints; rw [List.getElem?_map, h]; rfl
end Go.Proofs.YtioijfplbgpjpaaGreat
namespace Go.Proofs.YtioijfplbgpjpaaGreat
set_option linter.unusedVariables false
set_option linter.unusedSimpArgs false
set_option maxRecDepth 100000
open Go.RowKit
def OF {α : Type} (f : α → List Value) (e K : Nat) (w : World) (base : Nat) (v : Value) (xs : List α) (fp : List Nat) : Prop := w.ownsRow base e K v xs.length (xs.flatMap f) ∧ fp = v.ownBlock.toList
section
variable {α : Type} {f : α → List Value} {e K : Nat} {w w' : World} {bs B : Nat} {v : Value} {xs : List α} {fp fp' : List Nat}
theorem OF.mk (h : w.ownsRow bs e K v xs.length (xs.flatMap f)) : OF f e K w bs v xs v.ownBlock.toList := ⟨h, rfl⟩
theorem OF.lt (h : OF f e K w bs v xs fp) : ∀ b ∈ fp, bs ≤ b ∧ b < w.heap.size := by
 obtain ⟨h, rfl⟩ := h
 exact fun b hb => h.lt b (ownBlock_mem hb)
theorem OF.nodup (h : OF f e K w bs v xs fp) : fp.Nodup := by obtain ⟨_, rfl⟩ := h; cases v.ownBlock <;> simp
theorem OF.keep (h : OF f e K w bs v xs fp) (hk : ∀ b ∈ fp, w'.heap[b]? = w.heap[b]?) : OF f e K w' bs v xs fp := by
 obtain ⟨h, rfl⟩ := h
 exact ⟨own_block h (fun b hb => hk b (mem_ownBlock hb)), rfl⟩
theorem OF.next (h : OF f e K w bs v xs fp) (hb : Below w.heap.size w w') : OF f e K w' bs v xs fp := h.keep fun b hm => hb.block b (h.lt b hm).2
theorem OF.tch (h : OF f e K w bs v xs fp) (ht : Tch fp' w w') (hd : ∀ b ∈ fp, b ∈ fp' → False) : OF f e K w' bs v xs fp := h.keep fun b hb => ht.block b (h.lt b hb).2 (hd b hb)
theorem OF.form (h : OF f e K w bs v xs fp) : ∃ A c, v = .slice A xs.length c ∧ xs.length ≤ c := own_form2 h.1
theorem OF.base (h : OF f e K w bs v xs fp) (hB : B ≤ bs) : OF f e K w B v xs fp := ⟨own_base h.1 hB, h.2⟩
theorem OF.read (h : OF f e K w bs v xs fp) (hK : ∀ x, (f x).length = K) {bd : Nat} (hl : xs.length ≤ bd) : RL bd K (flat f) w w.heap.size v xs :=
 OL.read (OL_of_own h.1 hK) (fun cs x f h h' => eflat_read cs x f h h') hl
end
structure AtB (B : Nat) (W : World) (g : Nat) (t : TypeId) (cs : Array Value) (w : World) : Prop where
 os : w.os = W.os
 tape : w.tape = W.tape
 output : w.output = W.output
 size : W.heap.size ≤ w.heap.size
 block : ∀ k, k < B → k ≠ g → w.heap[k]? = W.heap[k]?
 blk : w.heap[g]? = some (.cells cs t (0, 0))
section
variable {B : Nat} {W w w' : World} {g : Nat} {t : TypeId} {cs : Array Value}
theorem AtB.here (h : W.heap[g]? = some (.cells cs t (0, 0))) : AtB B W g t cs W := ⟨rfl, rfl, rfl, Nat.le_refl _, fun _ _ _ => rfl, h⟩
theorem AtB.next (h : AtB B W g t cs w) (hb : Below w.heap.size w w') (hB : B ≤ W.heap.size) : AtB B W g t cs w' :=
 ⟨hb.os.trans h.os, hb.tape.trans h.tape, hb.output.trans h.output, Nat.le_trans h.size hb.size, fun k hk hn => (hb.block k (Nat.lt_of_lt_of_le hk (Nat.le_trans hB h.size))).trans (h.block k hk hn), (hb.block g (lt_of_block h.blk)).trans h.blk⟩
theorem AtB.store (h : AtB B W g t cs w) (j : Nat) (u : Value) : AtB B W g t (cs.setIfInBounds j u) (w.setCell ⟨g, j, none⟩ u) :=
 ⟨h.os, h.tape, h.output, by have := h.size; simpa [World.setCell] using this, fun k hk hn => (Below.heap_setCell _ _ _ _ hn).trans (h.block k hk hn), heap_setCell_same w g j _ _ _ h.blk⟩
theorem AtB.cells (h : AtB B W g t cs w) (j : Nat) : w.cell? ⟨g, j, none⟩ = cs[j]? := cell_of_row _ _ j _ _ (0, 0) h.blk
theorem AtB.free (h : AtB B W g t cs w) (j : Nat) : w.frozen? ⟨g, j, none⟩ = false := frozen_of_row _ _ j _ _ h.blk
theorem AtB.old (h : AtB B W g t cs w) {b : Nat} (hb : b < B) (hn : b ≠ g) {o : Obj} (ho : W.heap[b]? = some o) : w.heap[b]? = some o := (h.block b hb hn).trans ho
theorem AtB.oldc (h : AtB B W g t cs w) {b : Nat} (hb : b < B) (hn : b ≠ g) {c : Array Value} {t' : TypeId} (ho : W.heap[b]? = some (.cells c t' (0, 0))) (j : Nat) : w.cell? ⟨b, j, none⟩ = c[j]? := cell_of_row _ _ j _ _ (0, 0) (h.old hb hn ho)
theorem AtB.oldf (h : AtB B W g t cs w) {b : Nat} (hb : b < B) (hn : b ≠ g) {c : Array Value} {t' : TypeId} (ho : W.heap[b]? = some (.cells c t' (0, 0))) (j : Nat) : w.frozen? ⟨b, j, none⟩ = false := frozen_of_row _ _ j _ _ (h.old hb hn ho)
theorem AtB.lt (h : AtB B W g t cs w) : g < w.heap.size := lt_of_block h.blk
theorem AtB.low (h : AtB B W g t cs w) {w0 : World} (h0 : Below w0.heap.size w0 W) (hB : w0.heap.size ≤ B) (hg : w0.heap.size ≤ g) : Below w0.heap.size w0 w :=
 ⟨h.os.trans h0.os, h.tape.trans h0.tape, h.output.trans h0.output, Nat.le_trans h0.size h.size, fun k hk => (h.block k (Nat.lt_of_lt_of_le hk hB) (by omega)).trans (h0.block k hk)⟩
end
theorem below_setW {B : Nat} {a w : World} {g : Nat} (h : Below B a w) (hg : B ≤ g) (us : List Value) (o : Nat) : Below B a (setW w g o us) := Below.setW hg us w o h
end Go.Proofs.YtioijfplbgpjpaaGreat
namespace Go.Proofs.YtioijfplbgpjpaaGreat
set_option linter.unusedVariables false
set_option linter.unusedSimpArgs false
set_option maxRecDepth 100000
open Go.RowKit
def mkS {α : Type} (K : Nat) (g : Int → α) : Int → Nat → List α
 |_, 0 => []
 |k, n + 1 => g k :: mkS K g (k + K) n
theorem mkS_length {α : Type} (K : Nat) (g : Int → α) : ∀ (n : Nat) (k : Int), (mkS K g k n).length = n
 |0, _ => rfl
 |n + 1, k => by simp [mkS, mkS_length K g n]
theorem mkS_get {α : Type} (K : Nat) (g : Int → α) : ∀ (n j : Nat) (k : Int), j < n → (mkS K g k n)[j]? = some (g (k + ((j * K : Nat) : Int)))
 |0, _, _, h => by omega
 |n + 1, 0, k, _ => by simp [mkS]
 |n + 1, j + 1, k, h => by
  rw [mkS, List.getElem?_cons_succ, mkS_get K g n j _ (by omega), Nat.add_mul, Nat.one_mul]
  congr 2
  omega
theorem mkS_snoc {α : Type} (K : Nat) (g : Int → α) : ∀ (n : Nat) (k : Int), mkS K g k (n + 1) = mkS K g k n ++ [g (k + ((n * K : Nat) : Int))]
 |0, k => by simp [mkS]
 |n + 1, k => by
  rw [mkS, mkS_snoc K g n (k + K), mkS, List.cons_append, Nat.add_mul, Nat.one_mul]
  congr 4
  omega
theorem mix_store {α : Type} {f : α → List Value} {K : Nat} (hK : ∀ x, (f x).length = K) {pre xs : List α} {j : Nat} (hp : pre.length = j) (hj : j < xs.length) (y : α) :
  setL ((pre ++ xs.drop j).flatMap f) (j * K) (f y) = ((pre ++ [y]) ++ xs.drop (j + 1)).flatMap f := by
 have hd : xs.drop j = xs[j] :: xs.drop (j + 1) := List.drop_eq_getElem_cons hj
 have hl : (pre.flatMap f).length = j * K := by
  rw [← hp]
  induction pre with
  |nil => simp
  |cons x l ih => rw [List.flatMap_cons, List.length_append, hK, List.length_cons, Nat.add_mul, Nat.one_mul, Nat.add_comm]; congr 1; clear ih hp; induction l with
   |nil => simp
   |cons x l ih => rw [List.flatMap_cons, List.length_append, hK, ih, List.length_cons, Nat.add_mul, Nat.one_mul, Nat.add_comm]
 have happ : ∀ (us l1 l2 : List Value), setL (l1 ++ l2) l1.length us = l1 ++ setL l2 0 us := by
  have gen : ∀ (us l1 l2 : List Value) (j : Nat), setL (l1 ++ l2) (l1.length + j) us = l1 ++ setL l2 j us := by
   intro us
   induction us with
   |nil => intro _ _ _; rfl
   |cons u us ih => intro l1 l2 j; unfold setL; rw [List.set_append_right _ _ (Nat.le_add_right _ _), Nat.add_sub_cancel_left, Nat.add_assoc]; exact ih l1 _ (j + 1)
  intro us l1 l2
  exact gen us l1 l2 0
 have hrow : ∀ (us l t : List Value), l.length = us.length → setL (l ++ t) 0 us = us ++ t := by
  have gen : ∀ (us d l t : List Value), l.length = us.length → setL (d ++ (l ++ t)) d.length us = d ++ (us ++ t) := by
   intro us
   induction us with
   |nil => intro d l t h; cases l <;> simp_all [setL]
   |cons u us ih =>
    intro d l t h
    cases l with
    |nil => simp at h
    |cons x l =>
     unfold setL
     rw [List.set_append_right _ _ (Nat.le_refl _), Nat.sub_self, List.cons_append, List.set_cons_zero]
     have := ih (d ++ [u]) l t (by simpa using h)
     simpa using this
  intro us l t h
  exact gen us [] l t h
 rw [hd, List.flatMap_append, List.flatMap_cons, ← hl, happ, hrow _ _ _ (by rw [hK, hK])]
 simp
abbrev mkInt (m : Int) : Int := m
set_option maxHeartbeats 400000 in
theorem markIntS_any (v : Value) (xs : List Int) (k : Int) (base : Nat) (w : World) (h : w.ownsRow base 3 1 v xs.length (xs.flatMap cI)) (hb : xs.length ≤ 16777216) (h0 : 0 ≤ k) (h1 : k ≤ 4294967296) :
  Calls Tryz.prog 34 #[v, .int .i64 k] w fun e w' => e = .returned (.int .i64 (k + ((xs.length * 1 : Nat) : Int))) ∧ w'.ownsRow base 3 1 v xs.length ((mkS 1 mkInt k xs.length).flatMap cI) ∧ Tch v.ownBlock.toList w w' := by
 obtain ⟨A, c, rfl⟩ := own_form h
 have H := Lib.hid h
 clear h
 obtain ⟨V, hV⟩ : ∃ V, V = Value.slice A xs.length c := ⟨_, rfl⟩
 go_enter Tryz.func34, Tryz.ntmps34
 go_wp2
 go_loopw [1, 5] (fun kk i wr => ∃ j : Nat, ∃ m : Int, j ≤ xs.length ∧ 0 ≤ m ∧ m ≤ 9223372036854775000 ∧ kk = .int .i64 m ∧ i = .int .i64 j ∧ m = k + ((j * 1 : Nat) : Int) ∧ wr.ownsRow base 3 1 (.slice A xs.length c) xs.length ((mkS 1 mkInt k j ++ xs.drop j).flatMap cI) ∧ Tch (Value.slice A xs.length c).ownBlock.toList w wr) (fun _ i _ => xs.length - (intOf i).toNat)
 case atStart => exact ⟨0, k, Nat.zero_le _, h0, by omega, rfl, rfl, by simp, by simpa [mkS] using H.out, Tch.refl _ _⟩
 case round =>
  obtain ⟨j, m, hj, hm0, hm1, rfl, rfl, hm, hown, ht⟩ := hrel
  have HM := Lib.hid hm
  by_cases hlt : j < xs.length
  ·have hm2 : m ≤ 9223372036854774000 := by omega
   clear hm
   obtain ⟨g, rfl⟩ : ∃ g, A = some ⟨g, 0, none⟩ := by
    rcases hown.2 with ⟨hv, _⟩ | ⟨g, cap, cur, hv, _⟩
    ·have hv' := congrArg (fun v => match v with | .slice _ m _ => m | _ => 0) hv; simp at hv'; omega
    ·cases hv; exact ⟨g, rfl⟩
   have hf := hown.frozenAt
   obtain ⟨o0, ho0⟩ := own_room0 hown j hlt (by omega)
   simp only [Nat.mul_one] at ho0
   have hst := storedL [.int .i64 (m)] _ wr (j * 1) hown
   have hmk : mkS 1 mkInt k (j + 1) = mkS 1 mkInt k j ++ [mkInt m] := by rw [mkS_snoc, HM.out]
   have hst2 := mix_store (f := cI) (K := 1) (fun _ => rfl) (mkS_length 1 mkInt j k) hlt (mkInt m)
   rw [show cI (mkInt m) = [.int .i64 (m)] from rfl, ← hmk] at hst2
   rw [hst2] at hst
   clear hmk hst2
   have htc := Tch.setW (show g ∈ (Value.slice (some ⟨g, 0, none⟩) xs.length c).ownBlock.toList by simp [Value.ownBlock]) [.int .i64 (m)] wr (j * 1) ht
   simp only [Nat.mul_one, setW] at hst htc
   have HST := Lib.hid hst
   have HTC := Lib.hid htc
   clear hst htc hown ht
   go_wp2
   go_roundw
   case rel => exact ⟨j + 1, m + 1, hlt, by omega, by omega, rfl, by go_num, by have := HM.out; omega, HST.out, HTC.out⟩
   case measure => simp [intOf]; omega
  ·obtain rfl : j = xs.length := by omega
   rw [List.drop_length, List.append_nil] at hown
   clear hm
   go_wp2
   go_ret
   exact ⟨ret_int HM.out, hown, ht⟩
set_option maxHeartbeats 400000 in
theorem heldIntS_any (v : Value) (n : Nat) (k : Int) (w : World) (h : RL 16777216 1 (flat cI) w w.heap.size v (mkS 1 mkInt k n)) (h0 : 0 ≤ k) (h1 : k ≤ 4294967296) :
  Calls Tryz.prog 35 #[v, .int .i64 k] w fun e w' => e = .returned (.int .i64 (k + ((n * 1 : Nat) : Int))) ∧ w = w' := by
 have h' := h
 obtain ⟨A, c, rfl, hbd, _⟩ := h
 rw [mkS_length] at hbd
 have H := Lib.hid h'
 clear h'
 have hl : (mkS 1 mkInt k n).length = n := mkS_length _ _ _ _
 rw [hl] at H ⊢
 have HL := Lib.hid hl
 clear hl
 go_enter Tryz.func35, Tryz.ntmps35
 go_wp2
 go_loop [1, 5] (fun kk i => ∃ j : Nat, ∃ m : Int, j ≤ n ∧ 0 ≤ m ∧ m ≤ 9223372036854775000 ∧ kk = .int .i64 m ∧ i = .int .i64 j ∧ m = k + ((j * 1 : Nat) : Int)) (fun _ i => n - (intOf i).toNat)
 case atStart => exact ⟨0, k, Nat.zero_le _, h0, by omega, rfl, rfl, by simp⟩
 case round =>
  obtain ⟨j, m, hj, hm0, hm1, rfl, rfl, hm⟩ := hrel
  have HM := Lib.hid hm
  by_cases hlt : j < n
  ·have hm2 : m ≤ 9223372036854774000 := by omega
   obtain ⟨b, off, x, _, rfl, hb, hx, _, hfx, hc⟩ := H.out.at_ j (by rw [HL.out]; exact hlt)
   rw [mkS_get _ _ _ _ _ hlt, ← hm] at hx
   cases hx
   cases hfx
   have hc0 := hc 0 _ rfl
   simp only [Nat.add_zero, Nat.mul_one] at hc0
   clear hc hm
   go_wp2
   go_round
   case rel => exact ⟨j + 1, m + 1, hlt, by omega, by omega, rfl, by go_num, by have := HM.out; omega⟩
   case measure => simp [intOf]; omega
  ·obtain rfl : j = n := by omega
   clear hm
   go_wp2
   go_ret
   exact ⟨ret_int (by have := HM.out; simpa using this), rfl⟩
abbrev mkSpot (m : Int) : Spot := ⟨m, m + 1, m + 1 + 1, m + 1 + 1 + 1⟩
set_option maxHeartbeats 400000 in
theorem markSpotS_any (v : Value) (xs : List Spot) (k : Int) (base : Nat) (w : World) (h : w.ownsRow base 72 4 v xs.length (xs.flatMap Spot.cells)) (hb : xs.length ≤ 16777216) (h0 : 0 ≤ k) (h1 : k ≤ 4294967296) :
  Calls Tryz.prog 112 #[v, .int .i64 k] w fun e w' => e = .returned (.int .i64 (k + ((xs.length * 4 : Nat) : Int))) ∧ w'.ownsRow base 72 4 v xs.length ((mkS 4 mkSpot k xs.length).flatMap Spot.cells) ∧ Tch v.ownBlock.toList w w' := by
 obtain ⟨A, c, rfl⟩ := own_form h
 have H := Lib.hid h
 clear h
 obtain ⟨V, hV⟩ : ∃ V, V = Value.slice A xs.length c := ⟨_, rfl⟩
 go_enter Tryz.func112, Tryz.ntmps112
 go_wp2
 go_loopw [1, 5] (fun kk i wr => ∃ j : Nat, ∃ m : Int, j ≤ xs.length ∧ 0 ≤ m ∧ m ≤ 9223372036854775000 ∧ kk = .int .i64 m ∧ i = .int .i64 j ∧ m = k + ((j * 4 : Nat) : Int) ∧ wr.ownsRow base 72 4 (.slice A xs.length c) xs.length ((mkS 4 mkSpot k j ++ xs.drop j).flatMap Spot.cells) ∧ Tch (Value.slice A xs.length c).ownBlock.toList w wr) (fun _ i _ => xs.length - (intOf i).toNat)
 case atStart => exact ⟨0, k, Nat.zero_le _, h0, by omega, rfl, rfl, by simp, by simpa [mkS] using H.out, Tch.refl _ _⟩
 case round =>
  obtain ⟨j, m, hj, hm0, hm1, rfl, rfl, hm, hown, ht⟩ := hrel
  have HM := Lib.hid hm
  by_cases hlt : j < xs.length
  ·have hm2 : m ≤ 9223372036854774000 := by omega
   clear hm
   obtain ⟨g, rfl⟩ : ∃ g, A = some ⟨g, 0, none⟩ := by
    rcases hown.2 with ⟨hv, _⟩ | ⟨g, cap, cur, hv, _⟩
    ·have hv' := congrArg (fun v => match v with | .slice _ m _ => m | _ => 0) hv; simp at hv'; omega
    ·cases hv; exact ⟨g, rfl⟩
   have hf := hown.frozenAt
   obtain ⟨o0, ho0⟩ := own_room0 hown j hlt (by omega)
   obtain ⟨o1, ho1⟩ := own_room hown j 1 hlt (by omega)
   obtain ⟨o2, ho2⟩ := own_room hown j 2 hlt (by omega)
   obtain ⟨o3, ho3⟩ := own_room hown j 3 hlt (by omega)
   have hst := storedL [.int .i64 (m), .int .i64 (m + 1), .int .i64 (m + 1 + 1), .int .i64 (m + 1 + 1 + 1)] _ wr (j * 4) hown
   have hmk : mkS 4 mkSpot k (j + 1) = mkS 4 mkSpot k j ++ [mkSpot m] := by rw [mkS_snoc, HM.out]
   have hst2 := mix_store (f := Spot.cells) (K := 4) (fun _ => rfl) (mkS_length 4 mkSpot j k) hlt (mkSpot m)
   rw [show Spot.cells (mkSpot m) = [.int .i64 (m), .int .i64 (m + 1), .int .i64 (m + 1 + 1), .int .i64 (m + 1 + 1 + 1)] from rfl, ← hmk] at hst2
   rw [hst2] at hst
   clear hmk hst2
   have htc := Tch.setW (show g ∈ (Value.slice (some ⟨g, 0, none⟩) xs.length c).ownBlock.toList by simp [Value.ownBlock]) [.int .i64 (m), .int .i64 (m + 1), .int .i64 (m + 1 + 1), .int .i64 (m + 1 + 1 + 1)] wr (j * 4) ht
   have HST := Lib.hid hst
   have HTC := Lib.hid htc
   clear hst htc hown ht
   go_wp2
   go_roundw
   case rel => exact ⟨j + 1, m + 1 + 1 + 1 + 1, hlt, by omega, by omega, rfl, by go_num, by have := HM.out; omega, HST.out, HTC.out⟩
   case measure => simp [intOf]; omega
  ·obtain rfl : j = xs.length := by omega
   rw [List.drop_length, List.append_nil] at hown
   clear hm
   go_wp2
   go_ret
   exact ⟨ret_int HM.out, hown, ht⟩
abbrev mkPair (m : Int) : Pair := ⟨m, m + 1⟩
set_option maxHeartbeats 400000 in
theorem markPairS_any (v : Value) (xs : List Pair) (k : Int) (base : Nat) (w : World) (h : w.ownsRow base 165 2 v xs.length (xs.flatMap Pair.cells)) (hb : xs.length ≤ 16777216) (h0 : 0 ≤ k) (h1 : k ≤ 4294967296) :
  Calls Tryz.prog 108 #[v, .int .i64 k] w fun e w' => e = .returned (.int .i64 (k + ((xs.length * 2 : Nat) : Int))) ∧ w'.ownsRow base 165 2 v xs.length ((mkS 2 mkPair k xs.length).flatMap Pair.cells) ∧ Tch v.ownBlock.toList w w' := by
 obtain ⟨A, c, rfl⟩ := own_form h
 have H := Lib.hid h
 clear h
 obtain ⟨V, hV⟩ : ∃ V, V = Value.slice A xs.length c := ⟨_, rfl⟩
 go_enter Tryz.func108, Tryz.ntmps108
 go_wp2
 go_loopw [1, 5] (fun kk i wr => ∃ j : Nat, ∃ m : Int, j ≤ xs.length ∧ 0 ≤ m ∧ m ≤ 9223372036854775000 ∧ kk = .int .i64 m ∧ i = .int .i64 j ∧ m = k + ((j * 2 : Nat) : Int) ∧ wr.ownsRow base 165 2 (.slice A xs.length c) xs.length ((mkS 2 mkPair k j ++ xs.drop j).flatMap Pair.cells) ∧ Tch (Value.slice A xs.length c).ownBlock.toList w wr) (fun _ i _ => xs.length - (intOf i).toNat)
 case atStart => exact ⟨0, k, Nat.zero_le _, h0, by omega, rfl, rfl, by simp, by simpa [mkS] using H.out, Tch.refl _ _⟩
 case round =>
  obtain ⟨j, m, hj, hm0, hm1, rfl, rfl, hm, hown, ht⟩ := hrel
  have HM := Lib.hid hm
  by_cases hlt : j < xs.length
  ·have hm2 : m ≤ 9223372036854774000 := by omega
   clear hm
   obtain ⟨g, rfl⟩ : ∃ g, A = some ⟨g, 0, none⟩ := by
    rcases hown.2 with ⟨hv, _⟩ | ⟨g, cap, cur, hv, _⟩
    ·have hv' := congrArg (fun v => match v with | .slice _ m _ => m | _ => 0) hv; simp at hv'; omega
    ·cases hv; exact ⟨g, rfl⟩
   have hf := hown.frozenAt
   obtain ⟨o0, ho0⟩ := own_room0 hown j hlt (by omega)
   obtain ⟨o1, ho1⟩ := own_room hown j 1 hlt (by omega)
   have hst := storedL [.int .i64 (m), .int .i64 (m + 1)] _ wr (j * 2) hown
   have hmk : mkS 2 mkPair k (j + 1) = mkS 2 mkPair k j ++ [mkPair m] := by rw [mkS_snoc, HM.out]
   have hst2 := mix_store (f := Pair.cells) (K := 2) (fun _ => rfl) (mkS_length 2 mkPair j k) hlt (mkPair m)
   rw [show Pair.cells (mkPair m) = [.int .i64 (m), .int .i64 (m + 1)] from rfl, ← hmk] at hst2
   rw [hst2] at hst
   clear hmk hst2
   have htc := Tch.setW (show g ∈ (Value.slice (some ⟨g, 0, none⟩) xs.length c).ownBlock.toList by simp [Value.ownBlock]) [.int .i64 (m), .int .i64 (m + 1)] wr (j * 2) ht
   have HST := Lib.hid hst
   have HTC := Lib.hid htc
   clear hst htc hown ht
   go_wp2
   go_roundw
   case rel => exact ⟨j + 1, m + 1 + 1, hlt, by omega, by omega, rfl, by go_num, by have := HM.out; omega, HST.out, HTC.out⟩
   case measure => simp [intOf]; omega
  ·obtain rfl : j = xs.length := by omega
   rw [List.drop_length, List.append_nil] at hown
   clear hm
   go_wp2
   go_ret
   exact ⟨ret_int HM.out, hown, ht⟩
abbrev mkType (m : Int) : GType := ⟨m, m + 1, m + 1 + 1, m + 1 + 1 + 1, m + 1 + 1 + 1 + 1, m + 1 + 1 + 1 + 1 + 1, m + 1 + 1 + 1 + 1 + 1 + 1⟩
set_option maxHeartbeats 400000 in
theorem markTypeS_any (v : Value) (xs : List GType) (k : Int) (base : Nat) (w : World) (h : w.ownsRow base 142 7 v xs.length (xs.flatMap GType.cells)) (hb : xs.length ≤ 16777216) (h0 : 0 ≤ k) (h1 : k ≤ 4294967296) :
  Calls Tryz.prog 109 #[v, .int .i64 k] w fun e w' => e = .returned (.int .i64 (k + ((xs.length * 7 : Nat) : Int))) ∧ w'.ownsRow base 142 7 v xs.length ((mkS 7 mkType k xs.length).flatMap GType.cells) ∧ Tch v.ownBlock.toList w w' := by
 obtain ⟨A, c, rfl⟩ := own_form h
 have H := Lib.hid h
 clear h
 obtain ⟨V, hV⟩ : ∃ V, V = Value.slice A xs.length c := ⟨_, rfl⟩
 go_enter Tryz.func109, Tryz.ntmps109
 go_wp2
 go_loopw [1, 5] (fun kk i wr => ∃ j : Nat, ∃ m : Int, j ≤ xs.length ∧ 0 ≤ m ∧ m ≤ 9223372036854775000 ∧ kk = .int .i64 m ∧ i = .int .i64 j ∧ m = k + ((j * 7 : Nat) : Int) ∧ wr.ownsRow base 142 7 (.slice A xs.length c) xs.length ((mkS 7 mkType k j ++ xs.drop j).flatMap GType.cells) ∧ Tch (Value.slice A xs.length c).ownBlock.toList w wr) (fun _ i _ => xs.length - (intOf i).toNat)
 case atStart => exact ⟨0, k, Nat.zero_le _, h0, by omega, rfl, rfl, by simp, by simpa [mkS] using H.out, Tch.refl _ _⟩
 case round =>
  obtain ⟨j, m, hj, hm0, hm1, rfl, rfl, hm, hown, ht⟩ := hrel
  have HM := Lib.hid hm
  by_cases hlt : j < xs.length
  ·have hm2 : m ≤ 9223372036854774000 := by omega
   clear hm
   obtain ⟨g, rfl⟩ : ∃ g, A = some ⟨g, 0, none⟩ := by
    rcases hown.2 with ⟨hv, _⟩ | ⟨g, cap, cur, hv, _⟩
    ·have hv' := congrArg (fun v => match v with | .slice _ m _ => m | _ => 0) hv; simp at hv'; omega
    ·cases hv; exact ⟨g, rfl⟩
   have hf := hown.frozenAt
   obtain ⟨o0, ho0⟩ := own_room0 hown j hlt (by omega)
   obtain ⟨o1, ho1⟩ := own_room hown j 1 hlt (by omega)
   obtain ⟨o2, ho2⟩ := own_room hown j 2 hlt (by omega)
   obtain ⟨o3, ho3⟩ := own_room hown j 3 hlt (by omega)
   obtain ⟨o4, ho4⟩ := own_room hown j 4 hlt (by omega)
   obtain ⟨o5, ho5⟩ := own_room hown j 5 hlt (by omega)
   obtain ⟨o6, ho6⟩ := own_room hown j 6 hlt (by omega)
   have hst := storedL [.int .i64 (m), .int .i64 (m + 1), .int .i64 (m + 1 + 1), .int .i64 (m + 1 + 1 + 1), .int .i64 (m + 1 + 1 + 1 + 1), .int .i64 (m + 1 + 1 + 1 + 1 + 1), .int .i64 (m + 1 + 1 + 1 + 1 + 1 + 1)] _ wr (j * 7) hown
   have hmk : mkS 7 mkType k (j + 1) = mkS 7 mkType k j ++ [mkType m] := by rw [mkS_snoc, HM.out]
   have hst2 := mix_store (f := GType.cells) (K := 7) (fun _ => rfl) (mkS_length 7 mkType j k) hlt (mkType m)
   rw [show GType.cells (mkType m) = [.int .i64 (m), .int .i64 (m + 1), .int .i64 (m + 1 + 1), .int .i64 (m + 1 + 1 + 1), .int .i64 (m + 1 + 1 + 1 + 1), .int .i64 (m + 1 + 1 + 1 + 1 + 1), .int .i64 (m + 1 + 1 + 1 + 1 + 1 + 1)] from rfl, ← hmk] at hst2
   rw [hst2] at hst
   clear hmk hst2
   have htc := Tch.setW (show g ∈ (Value.slice (some ⟨g, 0, none⟩) xs.length c).ownBlock.toList by simp [Value.ownBlock]) [.int .i64 (m), .int .i64 (m + 1), .int .i64 (m + 1 + 1), .int .i64 (m + 1 + 1 + 1), .int .i64 (m + 1 + 1 + 1 + 1), .int .i64 (m + 1 + 1 + 1 + 1 + 1), .int .i64 (m + 1 + 1 + 1 + 1 + 1 + 1)] wr (j * 7) ht
   have HST := Lib.hid hst
   have HTC := Lib.hid htc
   clear hst htc hown ht
   go_wp2
   go_roundw
   case rel => exact ⟨j + 1, m + 1 + 1 + 1 + 1 + 1 + 1 + 1, hlt, by omega, by omega, rfl, by go_num, by have := HM.out; omega, HST.out, HTC.out⟩
   case measure => simp [intOf]; omega
  ·obtain rfl : j = xs.length := by omega
   rw [List.drop_length, List.append_nil] at hown
   clear hm
   go_wp2
   go_ret
   exact ⟨ret_int HM.out, hown, ht⟩
abbrev mkItem (m : Int) : Item := ⟨m, m + 1, m + 1 + 1, m + 1 + 1 + 1, m + 1 + 1 + 1 + 1, m + 1 + 1 + 1 + 1 + 1, m + 1 + 1 + 1 + 1 + 1 + 1⟩
set_option maxHeartbeats 400000 in
theorem markItemS_any (v : Value) (xs : List Item) (k : Int) (base : Nat) (w : World) (h : w.ownsRow base 152 7 v xs.length (xs.flatMap Item.cells)) (hb : xs.length ≤ 16777216) (h0 : 0 ≤ k) (h1 : k ≤ 4294967296) :
  Calls Tryz.prog 110 #[v, .int .i64 k] w fun e w' => e = .returned (.int .i64 (k + ((xs.length * 7 : Nat) : Int))) ∧ w'.ownsRow base 152 7 v xs.length ((mkS 7 mkItem k xs.length).flatMap Item.cells) ∧ Tch v.ownBlock.toList w w' := by
 obtain ⟨A, c, rfl⟩ := own_form h
 have H := Lib.hid h
 clear h
 obtain ⟨V, hV⟩ : ∃ V, V = Value.slice A xs.length c := ⟨_, rfl⟩
 go_enter Tryz.func110, Tryz.ntmps110
 go_wp2
 go_loopw [1, 5] (fun kk i wr => ∃ j : Nat, ∃ m : Int, j ≤ xs.length ∧ 0 ≤ m ∧ m ≤ 9223372036854775000 ∧ kk = .int .i64 m ∧ i = .int .i64 j ∧ m = k + ((j * 7 : Nat) : Int) ∧ wr.ownsRow base 152 7 (.slice A xs.length c) xs.length ((mkS 7 mkItem k j ++ xs.drop j).flatMap Item.cells) ∧ Tch (Value.slice A xs.length c).ownBlock.toList w wr) (fun _ i _ => xs.length - (intOf i).toNat)
 case atStart => exact ⟨0, k, Nat.zero_le _, h0, by omega, rfl, rfl, by simp, by simpa [mkS] using H.out, Tch.refl _ _⟩
 case round =>
  obtain ⟨j, m, hj, hm0, hm1, rfl, rfl, hm, hown, ht⟩ := hrel
  have HM := Lib.hid hm
  by_cases hlt : j < xs.length
  ·have hm2 : m ≤ 9223372036854774000 := by omega
   clear hm
   obtain ⟨g, rfl⟩ : ∃ g, A = some ⟨g, 0, none⟩ := by
    rcases hown.2 with ⟨hv, _⟩ | ⟨g, cap, cur, hv, _⟩
    ·have hv' := congrArg (fun v => match v with | .slice _ m _ => m | _ => 0) hv; simp at hv'; omega
    ·cases hv; exact ⟨g, rfl⟩
   have hf := hown.frozenAt
   obtain ⟨o0, ho0⟩ := own_room0 hown j hlt (by omega)
   obtain ⟨o1, ho1⟩ := own_room hown j 1 hlt (by omega)
   obtain ⟨o2, ho2⟩ := own_room hown j 2 hlt (by omega)
   obtain ⟨o3, ho3⟩ := own_room hown j 3 hlt (by omega)
   obtain ⟨o4, ho4⟩ := own_room hown j 4 hlt (by omega)
   obtain ⟨o5, ho5⟩ := own_room hown j 5 hlt (by omega)
   obtain ⟨o6, ho6⟩ := own_room hown j 6 hlt (by omega)
   have hst := storedL [.int .i64 (m), .int .i64 (m + 1), .int .i64 (m + 1 + 1), .int .i64 (m + 1 + 1 + 1), .int .i64 (m + 1 + 1 + 1 + 1), .int .i64 (m + 1 + 1 + 1 + 1 + 1), .int .i64 (m + 1 + 1 + 1 + 1 + 1 + 1)] _ wr (j * 7) hown
   have hmk : mkS 7 mkItem k (j + 1) = mkS 7 mkItem k j ++ [mkItem m] := by rw [mkS_snoc, HM.out]
   have hst2 := mix_store (f := Item.cells) (K := 7) (fun _ => rfl) (mkS_length 7 mkItem j k) hlt (mkItem m)
   rw [show Item.cells (mkItem m) = [.int .i64 (m), .int .i64 (m + 1), .int .i64 (m + 1 + 1), .int .i64 (m + 1 + 1 + 1), .int .i64 (m + 1 + 1 + 1 + 1), .int .i64 (m + 1 + 1 + 1 + 1 + 1), .int .i64 (m + 1 + 1 + 1 + 1 + 1 + 1)] from rfl, ← hmk] at hst2
   rw [hst2] at hst
   clear hmk hst2
   have htc := Tch.setW (show g ∈ (Value.slice (some ⟨g, 0, none⟩) xs.length c).ownBlock.toList by simp [Value.ownBlock]) [.int .i64 (m), .int .i64 (m + 1), .int .i64 (m + 1 + 1), .int .i64 (m + 1 + 1 + 1), .int .i64 (m + 1 + 1 + 1 + 1), .int .i64 (m + 1 + 1 + 1 + 1 + 1), .int .i64 (m + 1 + 1 + 1 + 1 + 1 + 1)] wr (j * 7) ht
   have HST := Lib.hid hst
   have HTC := Lib.hid htc
   clear hst htc hown ht
   go_wp2
   go_roundw
   case rel => exact ⟨j + 1, m + 1 + 1 + 1 + 1 + 1 + 1 + 1, hlt, by omega, by omega, rfl, by go_num, by have := HM.out; omega, HST.out, HTC.out⟩
   case measure => simp [intOf]; omega
  ·obtain rfl : j = xs.length := by omega
   rw [List.drop_length, List.append_nil] at hown
   clear hm
   go_wp2
   go_ret
   exact ⟨ret_int HM.out, hown, ht⟩
end Go.Proofs.YtioijfplbgpjpaaGreat
namespace Go.Proofs.YtioijfplbgpjpaaGreat
set_option linter.unusedVariables false
set_option linter.unusedSimpArgs false
set_option maxRecDepth 100000
open Go.RowKit Go.WideShapes Go.ChangeShapes Go.ChangeAt Go.Deep
open Go.ChangeMaps (open_string shut_string)
theorem own_ : ownKnob Tryz.prog.godebug = none := by kernel_rfl
theorem laidOut_ : laidOutB Tryz.prog = true := by kernel_rfl
section
variable {H : Type} {enc : TypeId × Value → H} {P : Program}
theorem post_of_below {f : Func} {s : ChangeSpec} {apart fresh handsOn again : Bool} {W W' : World} {args : Array Value} {v : Value} {ds gs : List (DataW H)} {before pa pv : List MemPlace}
  (hW : DataW.Whole enc P f.params.toList s.vars apart W args.toList ds gs before)
  (hres : ∀ (b : Nat) (sp : Nat → Bool) (hd : Bool), DataW.TrodAll enc P W' b sp hd f.resultTypes.toList (v.resultList f.resultTypes.size) (s.fn H (ds ++ gs)).results [])
  (hargs : ∀ sp : Nat → Bool, (∀ p ∈ before, sp p.block = true) → DataW.TrodAll enc P W' 0 sp true f.params.toList args.toList (s.fn H (ds ++ gs)).args pa)
  (hvars : ∀ sp : Nat → Bool, (∀ p ∈ before, sp p.block = true) → DataW.TrodVars enc P W' sp s.vars (s.fn H (ds ++ gs)).vars pv)
  (hps : before = pa ++ pv) (hb : Below W.heap.size W W')
  (hok : ∀ (j : Nat) (t : TypeId) (r : Value), f.resultTypes[j]? = some t → (v.resultList f.resultTypes.size)[j]? = some r → Value.okWide P W' .any 0 t r) :
  s.post enc P f apart fresh handsOn again W args v W' := by
 have hlt : ∀ p ∈ before, p.block < W.heap.size := fun p hp => hW.lt p hp
 have hold : ∀ p ∈ before, (fun b => decide (b < W.heap.size)) p.block = true := fun p hp => by simpa using hlt p hp
 refine ⟨ds, gs, before, [], pa, pv, hW, hres _ _ _, hargs _ hold, hvars _ hold, World.keptBut_mono (fun p hp => ⟨hp, ?_⟩) (hb.frame (· ∈ before)), fun _ => ?_⟩
 ·rw [hps, List.mem_append] at hp
  exact Or.inr hp
 ·obtain ⟨_, _, _, _, _, hz, hn⟩ := hW
  refine ⟨hok, _, _, ([] ++ pa) ++ pv, ⟨[] ++ pa, pv, trodAll_append (hargs _ (fun _ _ => rfl)) (hres _ _ _), hvars _ (fun _ _ => rfl), rfl, ?_, ?_⟩, ?_⟩
  ·intro b off hp
   have hin : MemPlace.cell b off ∈ before := by rw [hps]; simpa using hp
   rw [hb.frozen (hlt _ hin)]
   exact hz b off hin
  ·intro ha
   have := hn ha
   rw [hps] at this
   simpa using this
  ·intro p hp _
   rw [hps]
   simpa using hp
theorem stays {t : TypeId} (hl : laidOutB P = true) (hr : P.readableRec t = true) (hrow : t < P.types.size) {W W' : World} {sp' : Nat → Bool} {v : Value} {d : DataW H} {ps : List MemPlace}
  (h : DataW.Trod enc P W 0 (fun _ => true) true t v d ps) (hb : Below W.heap.size W W') (hlt : ∀ x ∈ ps, x.block < W.heap.size) (hs : ∀ p ∈ ps, sp' p.block = true) : DataW.Trod enc P W' 0 sp' true t v d ps :=
 WideElems.Trod_stays hl hr hrow h (fun x hx => hb.same (hlt x hx)) hs
end
theorem list_of {α : Type} {Q : Nat → α → Prop} : ∀ (n : Nat), (∀ i, i < n → ∃ x, Q i x) → ∃ xs : List α, xs.length = n ∧ ∀ i x, xs[i]? = some x → Q i x
 |0, _ => ⟨[], rfl, fun i x h => by simp at h⟩
 |n + 1, h => by
  obtain ⟨xs, hl, hx⟩ := list_of n (fun i hi => h i (by omega))
  obtain ⟨y, hy⟩ := h n (by omega)
  refine ⟨xs ++ [y], by simp [hl], fun i x hi => ?_⟩
  rcases Nat.lt_or_ge i n with h1 | h1
  ·rw [List.getElem?_append_left (by omega)] at hi
   exact hx i x hi
  ·rw [List.getElem?_append_right (by omega)] at hi
   have h2 : i - xs.length = 0 := by
    have := (List.getElem?_eq_some_iff.1 hi).1
    simp at this
    omega
   rw [h2] at hi
   simp at hi
   subst hi
   obtain rfl : i = n := by omega
   exact hy
section
variable {H : Type} {enc : TypeId × Value → H} {P : Program} {w : World} {held : Bool}
abbrev Tells {α : Type} (enc : TypeId × Value → H) (P : Program) (w : World) (held : Bool) (e : TypeId) (B K : Nat) (R : World → Nat → List Value → α → Prop) : Prop :=
 ∀ (n : Nat) (cs : List Value) (y : DataW H × List MemPlace), DataW.trod enc P w 0 (fun _ => true) held n e cs = some y → (∀ p ∈ y.2, p.block < B) → ∃ x, cs.length = K ∧ R w B cs x
theorem tells_slice {α : Type} {t e : TypeId} {B K : Nat} {R : World → Nat → List Value → α → Prop} (ht : P.underlying t = some (.slice e)) (hC : P.cellsOf e = K) (hK : 0 < K) (hE : Tells enc P w held e B K R)
  {n : Nat} {cs : List Value} {y : DataW H × List MemPlace} (h : DataW.trod enc P w 0 (fun _ => true) held n t cs = some y) (hB : ∀ p ∈ y.2, p.block < B) :
  ∃ v xs, cs = [v] ∧ RL 9223372036854775807 K R w B v xs := by
 rcases open_slice ht h with ⟨rfl, rfl⟩ | ⟨a, len, cap, m, n', D, Pl, rfl, _, hl, hm, hmm, rfl, hi⟩
 ·exact ⟨_, [], rfl, none, 0, rfl, by simp, fun h => by simp at h⟩
 ·simp only [if_true] at hmm
  have hpl : ∀ i, i < m → ∀ p ∈ Pl i, p.block < B := fun i hi p hp => hB p (by simp only [List.mem_append, List.mem_flatMap, List.mem_range]; exact .inr ⟨i, hi, hp⟩)
  obtain ⟨xs, hxl, hx⟩ := list_of (Q := fun i x => ∃ cs', w.cells? 0 (a.add (i * K)) K = some cs' ∧ cs'.length = K ∧ R w B cs' x) len (fun i hil => by
   obtain ⟨cs', h1, h2⟩ := hi i (by omega)
   rw [hC] at h1
   obtain ⟨x, h3, h4⟩ := hE _ _ _ h2 (hpl i (by omega))
   exact ⟨x, cs', h1, h3, h4⟩)
  subst hxl
  refine ⟨_, xs, rfl, some a, cap, rfl, ⟨by unfold maxLen at hm; omega, by omega⟩, fun hn => ?_⟩
  have hblk : a.block < B := by
   obtain ⟨cs', h1, _⟩ := hi 0 (by omega)
   have := hB (.cell a.block a.off) (by
    simp only [List.mem_append]
    refine .inl ?_
    rw [hC]
    unfold MemPlace.row
    simp only [List.mem_map, List.mem_range]
    exact ⟨0, Nat.mul_pos (by omega) hK, by simp⟩)
   exact this
  have hspot : a.spot = none := by
   obtain ⟨cs', h1, h2, _⟩ := hx 0 _ (List.getElem?_eq_getElem hn)
   obtain ⟨_, _, h4⟩ := World.cells?_some h1
   have h5 := h4 0 hK
   have h6 : cs'[0]? = some (cs'[0]'(by omega)) := List.getElem?_eq_getElem _
   rw [h6] at h5
   simp only [Nat.zero_mul, Addr.add, if_true] at h5
   unfold World.cell? at h5
   cases hs : a.spot with
   |none => rfl
   |some s => rw [hs] at h5; split at h5 <;> simp at h5
  obtain ⟨ab, ao, asp⟩ := a
  simp only at hspot hblk
  subst hspot
  refine ⟨ab, ao, rfl, hblk, fun i x hxi => ?_⟩
  obtain ⟨cs', h1, h2, h3⟩ := hx i x hxi
  refine ⟨cs', h2, h3, fun j u hu => ?_⟩
  obtain ⟨_, _, h4⟩ := World.cells?_some h1
  have hj := (List.getElem?_eq_some_iff.1 hu).1
  have h5 := h4 j (by omega)
  rw [hu] at h5
  rw [← h5]
  congr 1
  rw [Go.Deep.add_add]
  unfold Addr.add
  split
  ·rename_i h0; simp only [Nat.add_eq_zero_iff] at h0; rw [h0.1, h0.2]; simp
  ·simp [Nat.add_assoc]
theorem tells_int {t : TypeId} {B : Nat} (ht : P.underlying t = some (.int .i64)) : Tells enc P w held t B 1 (flat cI) := fun n cs y h _ => by
 obtain ⟨x, rfl, _, _⟩ := DataW.trod_int ht h
 exact ⟨x, rfl, rfl⟩
theorem trod_fields {e : TypeId} {fs : Array Field} {fuel : Nat} {cs : List Value} {x : DataW H × List MemPlace} (he : P.underlying e = some (.struct fs)) (hone : oneCellFields P fs = true) (hC : P.cellsOf e = fs.size)
  (h : DataW.trod enc P w 0 (fun _ => true) held fuel e cs = some x) :
  cs.length = fs.size ∧ ∀ (j : Nat) (f : Field), fs[j]? = some f → ∃ (n : Nat) (c : Value) (y : DataW H × List MemPlace), cs[j]? = some c ∧ (∀ p ∈ y.2, p ∈ x.2) ∧ DataW.trod enc P w 0 (fun _ => true) held n f.type [c] = some y := by
 obtain ⟨ys, n', hn', hy, hlen, hyl, hf⟩ := DataW.trod_struct he h
 refine ⟨hlen.trans hC, fun j f hj => ?_⟩
 obtain ⟨ho, hk⟩ := hone_of hone j f hj
 have hjl : j < fs.size := (Array.getElem?_eq_some_iff.1 hj).1
 have h1 := hf j f hj
 rw [ho, hk] at h1
 have hone' : (cs.drop j).take 1 = [cs[j]'(by omega)] := by
  rw [List.drop_eq_getElem_cons (by omega)]
  rfl
 rw [hone'] at h1
 have hys : ys[j]? = some (ys[j]'(by omega)) := List.getElem?_eq_getElem (by omega)
 refine ⟨n', _, _, List.getElem?_eq_getElem (by omega), fun p hp => ?_, h1.trans hys⟩
 rw [hy]
 exact List.mem_flatMap.2 ⟨_, List.getElem_mem _, hp⟩
theorem trod_ints {e i : TypeId} {fs : Array Field} {fuel : Nat} {cs : List Value} {x : DataW H × List MemPlace} (he : P.underlying e = some (.struct fs)) (hone : oneCellFields P fs = true) (hC : P.cellsOf e = fs.size) (hi : P.underlying i = some (.int .i64)) (hall : ∀ (j : Nat) (f : Field), fs[j]? = some f → f.type = i)
  (h : DataW.trod enc P w 0 (fun _ => true) held fuel e cs = some x) : ∃ ns : List Int, ns.length = fs.size ∧ cs = ns.map (Value.int .i64) := by
 obtain ⟨hl, hf⟩ := trod_fields he hone hC h
 obtain ⟨ns, h1, h2⟩ := list_of (Q := fun j (n : Int) => cs[j]? = some (.int .i64 n)) fs.size (fun j hj => by
  obtain ⟨n, c, y, g1, _, g2⟩ := hf j _ (Array.getElem?_eq_getElem hj)
  rw [hall j _ (Array.getElem?_eq_getElem hj)] at g2
  obtain ⟨m, g3, _⟩ := DataW.trod_int hi g2
  injection g3 with g3
  exact ⟨m, by rw [g1, g3]⟩)
 refine ⟨ns, h1, List.ext_getElem? fun j => ?_⟩
 rcases Nat.lt_or_ge j fs.size with hj | hj
 ·obtain ⟨n, hn⟩ : ∃ n, ns[j]? = some n := ⟨_, List.getElem?_eq_getElem (by omega)⟩
  rw [List.getElem?_map, hn, h2 j n hn]
  rfl
 ·rw [List.getElem?_eq_none (by omega), List.getElem?_eq_none (by rw [List.length_map]; omega)]
end
theorem RL.all {α : Type} {bd K : Nat} {R : World → Nat → List Value → α → Prop} {w : World} {B : Nat} {v : Value} {xs : List α} (h : RL bd K R w B v xs) {x : α} (hx : x ∈ xs) : ∃ cs, R w B cs x := by
 obtain ⟨A, c, rfl, hb, h⟩ := h
 obtain ⟨i, hi⟩ := List.mem_iff_getElem?.1 hx
 obtain ⟨b, off, rfl, hlt, hc⟩ := h (by have := (List.getElem?_eq_some_iff.1 hi).1; omega)
 obtain ⟨cs, _, h1, _⟩ := hc i x hi
 exact ⟨cs, h1⟩
end Go.Proofs.YtioijfplbgpjpaaGreat
namespace Go.Proofs.YtioijfplbgpjpaaGreat
set_option linter.unusedVariables false
set_option linter.unusedSimpArgs false
set_option maxRecDepth 100000
open Go.RowKit Go.WideShapes Go.ChangeShapes Go.ChangeAt Go.Deep
set_option maxRecDepth 100000
theorem tells_Spot {H : Type} {enc : TypeId × Value → H} {w : World} {B : Nat} : Tells enc Tryz.prog w true 174 B 4 (flat Spot.cells) := fun n cs y h _ => by
 obtain ⟨ns, hl, rfl⟩ := trod_ints Tryz.underlying174 (by kernel_rfl) (by kernel_rfl) Tryz.underlying3 (fun j f hj => by
  have hj' := (Array.getElem?_eq_some_iff.1 hj).1
  match j, hj' with
  |0, _ => simp at hj; rw [← hj]
  |1, _ => simp at hj; rw [← hj]
  |2, _ => simp at hj; rw [← hj]
  |3, _ => simp at hj; rw [← hj]
  |j + 4, h => exact absurd h (by simp)) h
 match ns, hl with
 |[a0, a1, a2, a3], _ => exact ⟨⟨a0, a1, a2, a3⟩, rfl, rfl⟩
theorem tells_Pair {H : Type} {enc : TypeId × Value → H} {w : World} {B : Nat} : Tells enc Tryz.prog w true 167 B 2 (flat Pair.cells) := fun n cs y h _ => by
 obtain ⟨ns, hl, rfl⟩ := trod_ints Tryz.underlying167 (by kernel_rfl) (by kernel_rfl) Tryz.underlying3 (fun j f hj => by
  have hj' := (Array.getElem?_eq_some_iff.1 hj).1
  match j, hj' with
  |0, _ => simp at hj; rw [← hj]
  |1, _ => simp at hj; rw [← hj]
  |j + 2, h => exact absurd h (by simp)) h
 match ns, hl with
 |[a0, a1], _ => exact ⟨⟨a0, a1⟩, rfl, rfl⟩
theorem tells_Type {H : Type} {enc : TypeId × Value → H} {w : World} {B : Nat} : Tells enc Tryz.prog w true 169 B 7 (flat GType.cells) := fun n cs y h _ => by
 obtain ⟨ns, hl, rfl⟩ := trod_ints Tryz.underlying169 (by kernel_rfl) (by kernel_rfl) Tryz.underlying3 (fun j f hj => by
  have hj' := (Array.getElem?_eq_some_iff.1 hj).1
  match j, hj' with
  |0, _ => simp at hj; rw [← hj]
  |1, _ => simp at hj; rw [← hj]
  |2, _ => simp at hj; rw [← hj]
  |3, _ => simp at hj; rw [← hj]
  |4, _ => simp at hj; rw [← hj]
  |5, _ => simp at hj; rw [← hj]
  |6, _ => simp at hj; rw [← hj]
  |j + 7, h => exact absurd h (by simp)) h
 match ns, hl with
 |[a0, a1, a2, a3, a4, a5, a6], _ => exact ⟨⟨a0, a1, a2, a3, a4, a5, a6⟩, rfl, rfl⟩
theorem tells_Item {H : Type} {enc : TypeId × Value → H} {w : World} {B : Nat} : Tells enc Tryz.prog w true 171 B 7 (flat Item.cells) := fun n cs y h _ => by
 obtain ⟨ns, hl, rfl⟩ := trod_ints Tryz.underlying171 (by kernel_rfl) (by kernel_rfl) Tryz.underlying3 (fun j f hj => by
  have hj' := (Array.getElem?_eq_some_iff.1 hj).1
  match j, hj' with
  |0, _ => simp at hj; rw [← hj]
  |1, _ => simp at hj; rw [← hj]
  |2, _ => simp at hj; rw [← hj]
  |3, _ => simp at hj; rw [← hj]
  |4, _ => simp at hj; rw [← hj]
  |5, _ => simp at hj; rw [← hj]
  |6, _ => simp at hj; rw [← hj]
  |j + 7, h => exact absurd h (by simp)) h
 match ns, hl with
 |[a0, a1, a2, a3, a4, a5, a6], _ => exact ⟨⟨a0, a1, a2, a3, a4, a5, a6⟩, rfl, rfl⟩
end Go.Proofs.YtioijfplbgpjpaaGreat
namespace Go.Proofs.YtioijfplbgpjpaaGreat
set_option linter.unusedVariables false
set_option linter.unusedSimpArgs false
set_option maxRecDepth 100000
open Go.RowKit
set_option maxHeartbeats 400000 in
theorem in_any (a b c : Int) (w : World) :
  Calls Tryz.prog 114 #[.int .i64 a, .int .i64 b, .int .i64 c] w fun e w' => e = .returned (.bool (inB a b c)) ∧ w = w' := by
 go_enter Tryz.func114, Tryz.ntmps114
 go_wp2
 all_goals go_ret
 all_goals (refine ⟨?_, rfl⟩; unfold inB; congr 2; simp; try omega)
set_option maxHeartbeats 400000 in
theorem l1In_any (a b c : Int) (w : World) :
  Calls Tryz.prog 104 #[.int .i64 a, .int .i64 b, .int .i64 c] w fun e w' => e = .returned (.bool (inB a b c)) ∧ w = w' := by
 go_enter Tryz.func104, Tryz.ntmps104
 go_wp2
 all_goals go_ret
 all_goals (refine ⟨?_, rfl⟩; unfold inB; congr 2; simp; try omega)
end Go.Proofs.YtioijfplbgpjpaaGreat
namespace Go.Proofs.YtioijfplbgpjpaaGreat
set_option linter.unusedVariables false
set_option linter.unusedSimpArgs false
set_option maxRecDepth 100000
open Go.RowKit
def uBad (xs : List Int) (i : Nat) : Bool := !inB (xs.getD i 0) 0 999 || (decide (0 < i) && decide (xs.getD i 0 ≤ xs.getD (i - 1) 0))
def unitsOk (xs : List Int) : Bool := decide (xs.length ≤ 100) && (List.range xs.length).all fun i => !uBad xs i
def cartonOk (c : Carton) : Bool := inB c.type 0 999 && inB c.group 0 3 && unitsOk c.units
def spotOk (s : Spot) : Bool := inB s.pallet 0 2000 && inB s.x 0 2000 && inB s.y 0 2000 && inB s.z 0 2000
def planOk (p : Plan) : Bool := decide (p.spots.length = p.cartons.length) && decide (p.cartons.length ≤ 100) && (List.range p.cartons.length).all fun i => cartonOk (p.cartons.getD i default) && spotOk (p.spots.getD i default)
theorem range_all_false {n k : Nat} {f : Nat → Bool} (hk : k < n) (h : f k = false) : (List.range n).all f = false := by
 rw [List.all_eq_false]
 exact ⟨k, List.mem_range.2 hk, by simp [h]⟩
theorem range_all_true {n : Nat} {f : Nat → Bool} (h : ∀ i, i < n → f i = true) : (List.range n).all f = true := by
 rw [List.all_eq_true]
 exact fun i hi => h i (List.mem_range.1 hi)
theorem below_step {k : Nat} {f : Nat → Bool} (h : ∀ i, i < k → f i = true) (hk : f k = true) : ∀ i, i < k + 1 → f i = true := by
 intro i hi
 rcases Nat.lt_or_ge i k with h1 | h1
 ·exact h i h1
 ·obtain rfl : i = k := by omega
  exact hk
theorem getD_some {α : Type} {xs : List α} {k : Nat} {x d : α} (h : xs[k]? = some x) : xs.getD k d = x := by simp [List.getD, h]
end Go.Proofs.YtioijfplbgpjpaaGreat
