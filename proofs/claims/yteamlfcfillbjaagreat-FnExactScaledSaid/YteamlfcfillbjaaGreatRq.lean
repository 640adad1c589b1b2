/-
  Orders as they lie in memory, and words for later worlds: what is said of every world behind the call's own boxes.
-/
import Derived.Test.YteamlfcfillbjaaGreatPl
namespace Go.Proofs.YteamlfcfillbjaaGreat
set_option linter.unusedVariables false
set_option linter.unusedSimpArgs false
set_option maxRecDepth 100000
open Go.RowKit
abbrev RPairs (bd : Nat) (w : World) (B : Nat) (v : Value) (xs : List Pair) : Prop := RL bd 2 (flat Pair.cells) w B v xs
abbrev RTypes (bd : Nat) (w : World) (B : Nat) (v : Value) (xs : List GType) : Prop := RL bd 7 (flat GType.cells) w B v xs
abbrev RItems (bd : Nat) (w : World) (B : Nat) (v : Value) (xs : List Item) : Prop := RL bd 7 (flat Item.cells) w B v xs
/-- the cells of an order -/
abbrev Request.row (r : Request) (vp vt vi : Value) : Array Value := #[.int .i64 r.way, .int .i64 r.pallet.w, .int .i64 r.pallet.d, .int .i64 r.pallet.h, .int .i64 r.pallet.gram, .int .i64 r.classes, vp, vt, .int .i64 r.master, vi]
def RReq (bd : Nat) (w : World) (B : Nat) (v : Value) (r : Request) : Prop := ∃ vp vt vi, v = .agg (r.row vp vt vi) ∧ RPairs bd w B vp r.pairs ∧ RTypes bd w B vt r.types ∧ RItems bd w B vi r.items
theorem RReq.keep {bd : Nat} {w w' : World} {B B' : Nat} {v : Value} {r : Request} (h : RReq bd w B v r) (hk : ∀ q : Addr, q.block < B → w'.cell? q = w.cell? q) (hB : B ≤ B') : RReq bd w' B' v r := by
  obtain ⟨v1, v2, v3, rfl, h1, h2, h3⟩ := h
  exact ⟨v1, v2, v3, rfl, h1.keep (flat_mono _) hk hB, h2.keep (flat_mono _) hk hB, h3.keep (flat_mono _) hk hB⟩
theorem RReq.next {bd : Nat} {w w' : World} {v : Value} {r : Request} (h : RReq bd w w.heap.size v r) (hb : Below w.heap.size w w') : RReq bd w' w'.heap.size v r := h.keep (fun _ hp => hb.cell hp) hb.size
def Request.bulk (r : Request) : Nat := r.pairs.length + r.types.length + r.items.length
theorem RReq.wide {bd bd' : Nat} {w : World} {B : Nat} {v : Value} {r : Request} (h : RReq bd w B v r) (hb : r.bulk ≤ bd') : RReq bd' w B v r := by
  obtain ⟨v1, v2, v3, rfl, h1, h2, h3⟩ := h
  unfold Request.bulk at hb
  exact ⟨v1, v2, v3, rfl, h1.wide (by omega), h2.wide (by omega), h3.wide (by omega)⟩
/-- laid open: the three lists' heads written out -/
theorem RReq.opn {bd : Nat} {w : World} {B : Nat} {v : Value} {r : Request} (h : RReq bd w B v r) : ∃ A1 c1 A2 c2 A3 c3, v = .agg #[.int .i64 r.way, .int .i64 r.pallet.w, .int .i64 r.pallet.d, .int .i64 r.pallet.h, .int .i64 r.pallet.gram, .int .i64 r.classes, .slice A1 r.pairs.length c1, .slice A2 r.types.length c2, .int .i64 r.master, .slice A3 r.items.length c3] ∧
    (Hid (RPairs bd w B (.slice A1 r.pairs.length c1) r.pairs) ∧ Hid (RTypes bd w B (.slice A2 r.types.length c2) r.types) ∧ Hid (RItems bd w B (.slice A3 r.items.length c3) r.items)) ∧ r.pairs.length ≤ bd ∧ r.types.length ≤ bd ∧ r.items.length ≤ bd ∧ r.pairs.length ≤ c1 ∧ r.types.length ≤ c2 ∧ r.items.length ≤ c3 := by
  obtain ⟨v1, v2, v3, rfl, h1, h2, h3⟩ := h
  have g1 := h1; have g2 := h2; have g3 := h3
  obtain ⟨A1, c1, rfl, b1, _⟩ := h1
  obtain ⟨A2, c2, rfl, b2, _⟩ := h2
  obtain ⟨A3, c3, rfl, b3, _⟩ := h3
  exact ⟨A1, c1, A2, c2, A3, c3, rfl, ⟨Lib.hid g1, Lib.hid g2, Lib.hid g3⟩, b1.1, b2.1, b3.1, b1.2, b2.2, b3.2⟩
/-! ### later worlds -/
section
variable {w W : World} {B : Nat}
theorem Ext.low (X : Ext B W) (h : Below w.heap.size w W) (hB : w.heap.size ≤ B) : Below w.heap.size w X.world := h.trans (X.ok.mono hB)
/-- the type of the later worlds that X is one of -/
abbrev Ext.Of (_ : Ext B W) : Type := Ext B W
/-- the world itself -/
abbrev Ext.here (B : Nat) (W : World) : Ext B W := ⟨W, Below.refl B W⟩
/-- boxes laid by the call, one behind the other -/
def lay (w : World) : List Obj → World
  | [] => w
  | o :: l => lay (w.alloc o) l
theorem lay_below : ∀ (l : List Obj) (w : World), Below w.heap.size w (lay w l)
  | [], w => Below.refl _ _
  | o :: l, w => ((Below.refl _ _).alloc (Nat.le_refl _) o).trans ((lay_below l (w.alloc o)).mono (by simp))
theorem lay_heap : ∀ (l : List Obj) (w : World), (lay w l).heap.size = w.heap.size + l.length
  | [], w => rfl
  | o :: l, w => by unfold lay; rw [lay_heap l]; simp; omega
theorem lay_at : ∀ (l : List Obj) (w : World) (i : Nat) (o : Obj), l[i]? = some o → (lay w l).heap[w.heap.size + i]? = some o
  | [], _, _, _, h => by simp at h
  | o :: l, w, 0, o', h => by
    simp at h
    subst h
    unfold lay
    exact ((lay_below l (w.alloc o)).block _ (by simp)).trans (by have := heap_alloc_if w o w.heap.size; simpa using this)
  | o :: l, w, i + 1, o', h => by
    have := lay_at l (w.alloc o) i o' (by simpa using h)
    unfold lay
    rw [← this]
    simp
    congr 1
    omega
theorem lay_low (w : World) (l : List Obj) (X : Ext (w.heap.size + l.length) (lay w l)) : Below w.heap.size w X.world := X.low (lay_below l w) (Nat.le_add_right _ _)
theorem lay_size (w : World) (l : List Obj) (X : Ext (w.heap.size + l.length) (lay w l)) : w.heap.size + l.length ≤ X.world.heap.size := by have := X.size; rw [lay_heap] at this; exact this
theorem lay_blk (w : World) (l : List Obj) (i : Nat) (o : Obj) (h : l[i]? = some o) (X : Ext (w.heap.size + l.length) (lay w l)) : X.world.heap[w.heap.size + i]? = some o :=
  (X.ok.block (w.heap.size + i) (by have := (List.getElem?_eq_some_iff.1 h).1; omega)).trans (lay_at l w i o h)
theorem lay_box (w : World) (l : List Obj) (i : Nat) (cs : Array Value) (t : TypeId) (h : l[i]? = some (.cells cs t)) (X : Ext (w.heap.size + l.length) (lay w l)) (j : Nat) : X.world.cell? ⟨w.heap.size + i, j, none⟩ = cs[j]? :=
  cell_of_row _ _ j _ _ (0, 0) (lay_blk w l i _ h X)
theorem lay_box0 (w : World) (l : List Obj) (cs : Array Value) (t : TypeId) (h : l[0]? = some (.cells cs t)) (X : Ext (w.heap.size + l.length) (lay w l)) (j : Nat) : X.world.cell? ⟨w.heap.size, j, none⟩ = cs[j]? := lay_box w l 0 cs t h X j
theorem lay_free (w : World) (l : List Obj) (i : Nat) (cs : Array Value) (t : TypeId) (h : l[i]? = some (.cells cs t)) (X : Ext (w.heap.size + l.length) (lay w l)) (j : Nat) : X.world.frozen? ⟨w.heap.size + i, j, none⟩ = false :=
  frozen_of_row _ _ j _ _ (lay_blk w l i _ h X)
theorem lay_free0 (w : World) (l : List Obj) (cs : Array Value) (t : TypeId) (h : l[0]? = some (.cells cs t)) (X : Ext (w.heap.size + l.length) (lay w l)) (j : Nat) : X.world.frozen? ⟨w.heap.size, j, none⟩ = false := lay_free w l 0 cs t h X j
theorem lay_le (w : World) (l : List Obj) : w.heap.size + l.length ≤ (lay w l).heap.size := Nat.le_of_eq (lay_heap l w).symm
/-- a reading, in every later world -/
theorem RL.ext {α : Type} {bd K : Nat} {R : World → Nat → List Value → α → Prop} {v : Value} {xs : List α} (h : RL bd K R w w.heap.size v xs) (hm : RMono R) (hX : ∀ X : Ext B W, Below w.heap.size w X.world) (X : Ext B W) : RL bd K R X.world X.world.heap.size v xs := h.next hm (hX X)
/-- element k of a list that was there before the call: its cells, in every later world -/
theorem RL.flatX {α : Type} {bd K : Nat} {f : α → List Value} {n c : Nat} {A : Option Addr} {xs : List α} (h : RL bd K (flat f) w w.heap.size (.slice A n c) xs) (hX : ∀ X : Ext B W, Below w.heap.size w X.world) (k : Nat) (hk : k < xs.length) :
    ∃ b off x, A = some ⟨b, off, none⟩ ∧ b < w.heap.size ∧ xs[k]? = some x ∧ ∀ (j : Nat) (u : Value), (f x)[j]? = some u → ∀ X : Ext B W, X.world.cell? ⟨b, off + k * K + j, none⟩ = some u := by
  obtain ⟨b, off, x, cs, h1, h2, h3, _, rfl, h5⟩ := h.at_ k hk
  exact ⟨b, off, x, h1, h2, h3, fun j u hu X => ((hX X).cell (p := ⟨b, off + k * K + j, none⟩) h2).trans (h5 j u hu)⟩
/-- a callee's contract, in every later world -/
theorem extC {P : Program} {f : FuncId} {args : Array Value} {v : Value} (hB : B ≤ W.heap.size) (h : ∀ X : Ext B W, Calls P f args X.world fun e w' => e = .returned v ∧ Below X.world.heap.size X.world w') :
    Hid (∀ X : Ext B W, Calls P f args X.world fun e w'' => e = .returned v ∧ ∃ y : Ext B W, w'' = y.world) := Lib.hid fun X => ext_call (x := X) hB (h X)
/-- a drawn region, in a later world -/
theorem wp_region_in {P : Program} {id : Nat} {Q : Exit → Act → World → Prop} {a : Act} {X : Ext B W} {l : List Oper} (hm : P.follows .mixedOrders = true) (hB : Region.lexB .any l.toArray = true)
    (h : wpQuiet P l.toArray (fun w' => ∃ x : Ext B W, w' = x.world) (fun a' => ∀ w', (∃ x : Ext B W, w' = x.world) → Q .normal a' w') l a) : (Code.region id l.toArray true).wp P Q a X.world :=
  wp_region_quiet (C := fun w' => ∃ x : Ext B W, w' = x.world) hm hB ⟨⟨X.world.drew, X.ok.drew⟩, rfl⟩ (by simpa using h)
theorem wp_region_at {P : Program} {id : Nat} {Q : Exit → Act → World → Prop} {a : Act} {l : List Oper} (hm : P.follows .mixedOrders = true) (hB : Region.lexB .any l.toArray = true)
    (h : wpQuiet P l.toArray (fun w' => ∃ x : Ext B W, w' = x.world) (fun a' => ∀ w', (∃ x : Ext B W, w' = x.world) → Q .normal a' w') l a) : (Code.region id l.toArray true).wp P Q a W :=
  wp_region_quiet (C := fun w' => ∃ x : Ext B W, w' = x.world) hm hB ⟨⟨W.drew, (Below.refl B W).drew⟩, rfl⟩ (by simpa using h)
end
end Go.Proofs.YteamlfcfillbjaaGreat
