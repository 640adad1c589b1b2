/-
  The words for memory that all walks of this family use: a slice that reads as a list (RL), and small facts. No program is named here.
-/
import Derived.WalkKit
import Derived.WalkSpells
import Derived.WalkLawsBesides
import Derived.BigQuiet
import Derived.Deep.QuietTactic
import Derived.IntWalk
import Derived.Lib.Hide
import Derived.Laws.OwnMore
import Derived.Deep.Draws
import Derived.Deep.RegionHeld3
namespace Go.Proofs.YteamlfcfillbjaaGreat
set_option linter.unusedVariables false
set_option linter.unusedSimpArgs false
set_option maxRecDepth 100000
open Go.RowKit

theorem ret_int {k : IntKind} {a b : Int} (h : a = b) : Ending.returned (.int k a) = .returned (.int k b) := by rw [h]
theorem ret_bool {a b : Bool} (h : a = b) : Ending.returned (.bool a) = .returned (.bool b) := by rw [h]
theorem ret_str {a b : ByteArray} (h : a = b) : Ending.returned (.string a) = .returned (.string b) := by rw [h]

/-- What is said of an element's cells does not turn where memory below B does not. -/
def RMono {α : Type} (R : World → Nat → List Value → α → Prop) : Prop :=
  ∀ (w w' : World) (B B' : Nat) (cs : List Value) (x : α), (∀ p : Addr, p.block < B → w'.cell? p = w.cell? p) → B ≤ B' → R w B cs x → R w' B' cs x

/-- The slice value v reads as the list xs: each element lies in k cells, of which R tells; all below block B; at most bd elements. -/
def RL {α : Type} (bd k : Nat) (R : World → Nat → List Value → α → Prop) (w : World) (B : Nat) (v : Value) (xs : List α) : Prop :=
  ∃ (A : Option Addr) (c : Nat), v = .slice A xs.length c ∧ (xs.length ≤ bd ∧ xs.length ≤ c) ∧ (0 < xs.length → ∃ b off, A = some ⟨b, off, none⟩ ∧ b < B ∧
    ∀ (i : Nat) (x : α), xs[i]? = some x → ∃ cs, cs.length = k ∧ R w B cs x ∧ ∀ (j : Nat) (u : Value), cs[j]? = some u → w.cell? ⟨b, off + i * k + j, none⟩ = some u)

section
variable {α : Type} {bd k : Nat} {R : World → Nat → List Value → α → Prop} {w w' : World} {B B' : Nat} {v : Value} {xs : List α}
theorem RL.keep (h : RL bd k R w B v xs) (hm : RMono R) (hk : ∀ p : Addr, p.block < B → w'.cell? p = w.cell? p) (hB : B ≤ B') : RL bd k R w' B' v xs := by
  obtain ⟨A, c, rfl, hb, h⟩ := h
  refine ⟨A, c, rfl, hb, fun hn => ?_⟩
  obtain ⟨b, off, rfl, hlt, hc⟩ := h hn
  refine ⟨b, off, rfl, by omega, fun i x hx => ?_⟩
  obtain ⟨cs, hl, hR, hcs⟩ := hc i x hx
  exact ⟨cs, hl, hm _ _ _ _ _ _ hk hB hR, fun j u hu => (hk _ hlt).trans (hcs j u hu)⟩
theorem RL.below (h : RL bd k R w B v xs) (hm : RMono R) (hb : Below B w w') : RL bd k R w' B v xs := h.keep hm (fun _ hp => hb.cell hp) (Nat.le_refl _)
theorem RL.more (h : RL bd k R w B v xs) (hm : RMono R) (hB : B ≤ B') : RL bd k R w B' v xs := h.keep hm (fun _ _ => rfl) hB
theorem RL.wide {bd' : Nat} (h : RL bd k R w B v xs) (hb : xs.length ≤ bd') : RL bd' k R w B v xs := by
  obtain ⟨A, c, rfl, h0, h⟩ := h
  exact ⟨A, c, rfl, ⟨hb, h0.2⟩, h⟩
end

/-- The element at place i. -/
theorem RL.at_ {α : Type} {bd K : Nat} {R : World → Nat → List Value → α → Prop} {w : World} {B n c : Nat} {A : Option Addr} {xs : List α} (h : RL bd K R w B (.slice A n c) xs) (i : Nat) (hi : i < xs.length) :
    ∃ b off x cs, A = some ⟨b, off, none⟩ ∧ b < B ∧ xs[i]? = some x ∧ cs.length = K ∧ R w B cs x ∧ ∀ (j : Nat) (u : Value), cs[j]? = some u → w.cell? ⟨b, off + i * K + j, none⟩ = some u := by
  obtain ⟨A', c', hv, _, hA⟩ := h
  obtain ⟨b, off, rfl, hb, hc⟩ := hA (by omega)
  injection hv with h1 _ _
  obtain ⟨cs, hl, hR, hcs⟩ := hc i _ (List.getElem?_eq_getElem hi)
  exact ⟨b, off, _, cs, h1, hb, List.getElem?_eq_getElem hi, hl, hR, hcs⟩
theorem RL.len {α : Type} {bd K : Nat} {R : World → Nat → List Value → α → Prop} {w : World} {B : Nat} {v : Value} {xs : List α} (h : RL bd K R w B v xs) : xs.length ≤ bd := by
  obtain ⟨_, _, _, hb, _⟩ := h
  exact hb.1
theorem RL.len_cap {α : Type} {bd K : Nat} {R : World → Nat → List Value → α → Prop} {w : World} {B n c : Nat} {A : Option Addr} {xs : List α} (h : RL bd K R w B (.slice A n c) xs) : n = xs.length ∧ n ≤ c := by
  obtain ⟨_, _, hv, hb, _⟩ := h
  injection hv with _ h2 h3
  omega
/-- the first k elements -/
theorem RL.take {α : Type} {bd K : Nat} {R : World → Nat → List Value → α → Prop} {w : World} {B n c : Nat} {A : Option Addr} {xs : List α} (h : RL bd K R w B (.slice A n c) xs) (k : Nat) (hk : k ≤ n) : RL bd K R w B (.slice A k c) (xs.take k) := by
  obtain ⟨A', c', hv, hb, hA⟩ := h
  injection hv with h1 h2 h3
  subst h1 h2 h3
  have hl : (xs.take k).length = k := by rw [List.length_take]; omega
  refine ⟨A, c, by rw [hl], by rw [hl]; omega, fun hn => ?_⟩
  obtain ⟨b, off, rfl, hB, hc⟩ := hA (by omega)
  refine ⟨b, off, rfl, hB, fun i x hx => hc i x ?_⟩
  rw [List.getElem?_take] at hx
  split at hx
  · exact hx
  · cases hx
/-- what stands from element k on -/
theorem RL.drop {α : Type} {bd K : Nat} {R : World → Nat → List Value → α → Prop} {w : World} {B n c b off : Nat} {xs : List α} (h : RL bd K R w B (.slice (some ⟨b, off, none⟩) n c) xs) (k : Nat) (hk : k ≤ n) : RL bd K R w B (.slice (some ⟨b, off + k * K, none⟩) (n - k) (c - k)) (xs.drop k) := by
  obtain ⟨A', c', hv, hb, hA⟩ := h
  injection hv with h1 h2 h3
  subst h1 h2 h3
  have hl : (xs.drop k).length = xs.length - k := List.length_drop
  refine ⟨_, _, by rw [hl], by rw [hl]; omega, fun hn => ?_⟩
  obtain ⟨b', off', he, hB, hc⟩ := hA (by omega)
  injection he with he
  injection he with he1 he2
  subst he1 he2
  refine ⟨_, _, rfl, hB, fun i x hx => ?_⟩
  rw [List.getElem?_drop] at hx
  obtain ⟨cs, g1, g2, g3⟩ := hc _ x hx
  refine ⟨cs, g1, g2, fun j u hu => ?_⟩
  have := g3 j u hu
  rw [Nat.add_mul] at this
  rw [← this]
  congr 2
  omega
/-- an element that is there has its block -/
theorem RL.some_ {α : Type} {bd K : Nat} {R : World → Nat → List Value → α → Prop} {w : World} {B n c : Nat} {A : Option Addr} {xs : List α} (h : RL bd K R w B (.slice A n c) xs) (hn : 0 < n) : ∃ b off, A = some ⟨b, off, none⟩ := by
  obtain ⟨A', c', hv, hb, hA⟩ := h
  injection hv with h1 h2 h3
  subst h1 h2 h3
  obtain ⟨b, off, h, _⟩ := hA hn
  exact ⟨b, off, h⟩

theorem RL.weaken {α : Type} {bd bd' K : Nat} {R R' : World → Nat → List Value → α → Prop} {w : World} {B : Nat} {v : Value} {xs : List α} (h : RL bd K R w B v xs) (hbd : xs.length ≤ bd') (hR : ∀ cs x, x ∈ xs → R w B cs x → R' w B cs x) : RL bd' K R' w B v xs := by
  obtain ⟨A, c, rfl, hb, h⟩ := h
  refine ⟨A, c, rfl, ⟨hbd, hb.2⟩, fun hn => ?_⟩
  obtain ⟨b, off, rfl, hlt, hc⟩ := h hn
  refine ⟨b, off, rfl, hlt, fun i x hx => ?_⟩
  obtain ⟨cs, hl, h1, h2⟩ := hc i x hx
  exact ⟨cs, hl, hR _ _ (List.mem_of_getElem? hx) h1, h2⟩
theorem RL.next {α : Type} {bd k : Nat} {R : World → Nat → List Value → α → Prop} {w w' : World} {v : Value} {xs : List α} (h : RL bd k R w w.heap.size v xs) (hm : RMono R) (hb : Below w.heap.size w w') : RL bd k R w' w'.heap.size v xs := h.keep hm (fun _ hp => hb.cell hp) hb.size
/-- Elements of fixed cells: no memory is asked. -/
def flat {α : Type} (f : α → List Value) : World → Nat → List Value → α → Prop := fun _ _ cs x => cs = f x
theorem flat_mono {α : Type} (f : α → List Value) : RMono (flat f) := fun _ _ _ _ _ _ _ _ h => h

def cI (n : Int) : List Value := [.int .i64 n]
def cS (s : ByteArray) : List Value := [.string s]
/-- One cell an element: the cell at place i. -/
theorem RL.at1 {α : Type} {bd : Nat} {f : α → List Value} {w : World} {B n c : Nat} {A : Option Addr} {xs : List α} (h : RL bd 1 (flat f) w B (.slice A n c) xs) (i : Nat) (hi : i < xs.length) :
    ∃ b off x, A = some ⟨b, off, none⟩ ∧ b < B ∧ xs[i]? = some x ∧ ∀ u, f x = [u] → w.cell? ⟨b, off + i, none⟩ = some u := by
  obtain ⟨b, off, x, cs, h1, h2, h3, _, rfl, h5⟩ := h.at_ i hi
  exact ⟨b, off, x, h1, h2, h3, fun u hu => by have := h5 0 u (by rw [hu]; rfl); simpa using this⟩
/-- the first k elements lie there -/
def Pre {α : Type} (K : Nat) (f : α → List Value) (xs : List α) (k : Nat) (cs : List Value) : Prop :=
  cs.length = xs.length * K ∧ ∀ i x, i < k → xs[i]? = some x → ∀ (j : Nat) (u : Value), (f x)[j]? = some u → cs[i * K + j]? = some u
theorem Pre.zero {α : Type} {K : Nat} {f : α → List Value} {xs : List α} {cs : List Value} (h : cs.length = xs.length * K) : Pre K f xs 0 cs := ⟨h, fun _ _ hi => by omega⟩
/-- a row stored at place k: 'cs'' is cs but for the K cells from k * K on -/
theorem Pre.step {α : Type} {K : Nat} {f : α → List Value} {xs : List α} {k : Nat} {cs cs' : List Value} {x : α} (h : Pre K f xs k cs) (hx : xs[k]? = some x) (hf : (f x).length ≤ K) (hl : cs'.length = cs.length)
    (hnew : ∀ j u, (f x)[j]? = some u → cs'[k * K + j]? = some u) (hold : ∀ i, i < k * K → cs'[i]? = cs[i]?) (hK : ∀ y, (f y).length ≤ K) : Pre K f xs (k + 1) cs' := by
  refine ⟨hl.trans h.1, fun i y hi hy j u hu => ?_⟩
  rcases Nat.lt_or_ge i k with hlt | hge
  · rw [hold]
    · exact h.2 i y hlt hy j u hu
    · have hj : j < K := Nat.lt_of_lt_of_le (List.getElem?_eq_some_iff.1 hu).1 (hK y)
      have : (i + 1) * K ≤ k * K := Nat.mul_le_mul_right _ hlt
      rw [Nat.add_mul] at this
      omega
  · obtain rfl : i = k := by omega
    rw [hx] at hy
    injection hy with hy
    subst hy
    exact hnew j u hu
theorem Pre.step1 {α : Type} {f : α → List Value} {xs : List α} {k : Nat} {cs : List Value} {x : α} {u : Value} (h : Pre 1 f xs k cs) (hx : xs[k]? = some x) (hf : ∀ y, (f y).length = 1) (hu : f x = [u]) : Pre 1 f xs (k + 1) (cs.set k u) := by
  have hk : k < cs.length := by have := h.1; have := (List.getElem?_eq_some_iff.1 hx).1; omega
  refine h.step hx (by rw [hf x]; omega) (by simp) (fun j w hj => ?_) (fun i hi => ?_) (fun y => by rw [hf y]; omega)
  · rw [hu] at hj
    match j, hj with
    | 0, hj => simpa [hk] using hj
  · rw [List.getElem?_set_ne (by omega)]
theorem Pre.done {α : Type} {K : Nat} {f : α → List Value} : ∀ {xs : List α} {cs : List Value}, Pre K f xs xs.length cs → (∀ x, (f x).length = K) → cs = xs.flatMap f := by
  intro xs
  induction xs with
  | nil => intro cs h _; have := h.1; simp at this; simp [this]
  | cons x xs ih =>
    intro cs h hf
    have hl := h.1
    have h1 : cs.take K = f x := by
      apply List.ext_getElem?
      intro j
      rcases Nat.lt_or_ge j K with hj | hj
      · obtain ⟨u, hu⟩ : ∃ u, (f x)[j]? = some u := ⟨_, List.getElem?_eq_getElem (by rw [hf x]; exact hj)⟩
        have := h.2 0 x (by simp) (by simp) j u hu
        rw [hu, List.getElem?_take, if_pos hj]
        simpa using this
      · rw [List.getElem?_eq_none (by rw [List.length_take]; omega), List.getElem?_eq_none (by rw [hf x]; exact hj)]
    have h2 : cs.drop K = xs.flatMap f := by
      refine ih ⟨by rw [List.length_drop, hl, List.length_cons, Nat.add_mul]; omega, fun i y hi hy j u hu => ?_⟩ hf
      have := h.2 (i + 1) y (by simp; omega) (by simpa using hy) j u hu
      rw [List.getElem?_drop, ← this]
      congr 1
      rw [Nat.add_mul]; omega
    rw [← List.take_append_drop K cs, h1, h2]
    simp
/-- cells stored one behind the other -/
def setL (cs : List Value) (o : Nat) : List Value → List Value
  | [] => cs
  | u :: us => setL (cs.set o u) (o + 1) us
def setW (w : World) (g o : Nat) : List Value → World
  | [] => w
  | u :: us => setW (w.setCell ⟨g, o, none⟩ u) g (o + 1) us
theorem setL_length : ∀ (us cs : List Value) (o : Nat), (setL cs o us).length = cs.length
  | [], _, _ => rfl
  | u :: us, cs, o => by unfold setL; rw [setL_length]; simp
theorem setL_get : ∀ (us cs : List Value) (o i : Nat), o + us.length ≤ cs.length → (setL cs o us)[i]? = if o ≤ i ∧ i < o + us.length then us[i - o]? else cs[i]?
  | [], cs, o, i, _ => by rw [if_neg (by simp)]; rfl
  | u :: us, cs, o, i, h => by
    simp only [List.length_cons] at h
    unfold setL
    rw [setL_get us _ _ _ (by simp; omega)]
    simp only [List.length_cons]
    by_cases h1 : o + 1 ≤ i ∧ i < o + 1 + us.length
    · rw [if_pos h1, if_pos (by omega), show i - o = (i - (o + 1)) + 1 by omega]; simp
    · rw [if_neg h1]
      by_cases h2 : i = o
      · subst h2
        rw [if_pos (by omega), List.getElem?_set_self (by omega)]; simp
      · rw [if_neg (by omega), List.getElem?_set_ne (by omega)]
theorem Pre.stepL {α : Type} {K : Nat} {f : α → List Value} {xs : List α} {k : Nat} {cs : List Value} {x : α} (h : Pre K f xs k cs) (hx : xs[k]? = some x) (hK : ∀ y, (f y).length = K) : Pre K f xs (k + 1) (setL cs (k * K) (f x)) := by
  have hk := (List.getElem?_eq_some_iff.1 hx).1
  have hle : k * K + K ≤ cs.length := by rw [h.1, ← Nat.succ_mul]; exact Nat.mul_le_mul_right _ hk
  have hg := fun i => setL_get (f x) cs (k * K) i (by rw [hK]; exact hle)
  refine h.step hx (by rw [hK]; exact Nat.le_refl _) (setL_length _ _ _) (fun j u hj => ?_) (fun i hi => ?_) (fun y => by rw [hK]; exact Nat.le_refl _)
  · have := (List.getElem?_eq_some_iff.1 hj).1
    rw [hg, if_pos (by omega), show k * K + j - k * K = j by omega, hj]
  · rw [hg, if_neg (by omega)]
theorem storedL {base e size g n cap : Nat} : ∀ (us xs : List Value) (w : World) (o : Nat), w.ownsRow base e size (.slice (some ⟨g, 0, none⟩) n cap) n xs → (setW w g o us).ownsRow base e size (.slice (some ⟨g, 0, none⟩) n cap) n (setL xs o us)
  | [], _, _, _, h => h
  | u :: us, xs, w, o, h => storedL us _ _ _ (h.stored o u).1
theorem Below.setW {B : Nat} {a : World} {g : Nat} (hB : B ≤ g) : ∀ (us : List Value) (w : World) (o : Nat), Below B a w → Below B a (setW w g o us)
  | [], _, _, h => h
  | u :: us, w, o, h => Below.setW hB us _ _ (h.setCell hB u)
theorem own_below {w w' : World} {base e size n B : Nat} {v : Value} {xs : List Value} (h : w.ownsRow base e size v n xs) (hb : Below B w w') (hB : ∀ k, v.ownBlock = some k → k < B) : w'.ownsRow base e size v n xs := by
  refine ⟨h.1, ?_⟩
  rcases h.2 with h2 | ⟨g, cap, cur, rfl, hg, hh, r⟩
  · exact .inl h2
  · exact .inr ⟨g, cap, cur, rfl, hg, (hb.block g (hB g rfl)).trans hh, r⟩
/-- a cell of an own row is there -/
theorem own_room {w : World} {base e K g n cap : Nat} {xs : List Value} (h : w.ownsRow base e K (.slice (some ⟨g, 0, none⟩) n cap) n xs) (i j : Nat) (hi : i < n) (hj : j < K) : ∃ old, w.cell? ⟨g, i * K + j, none⟩ = some old := by
  have hlt : i * K + j < n * K := by
    have : (i + 1) * K ≤ n * K := Nat.mul_le_mul_right _ hi
    rw [Nat.add_mul] at this
    omega
  rw [h.cellAt _ hlt]
  exact ⟨_, List.getElem?_eq_getElem (by rw [h.1]; exact hlt)⟩
theorem own_room0 {w : World} {base e K g n cap : Nat} {xs : List Value} (h : w.ownsRow base e K (.slice (some ⟨g, 0, none⟩) n cap) n xs) (i : Nat) (hi : i < n) (hK : 0 < K) : ∃ old, w.cell? ⟨g, i * K, none⟩ = some old := own_room h i 0 hi hK
/-- []int, []string -/
abbrev RInts (bd : Nat) (w : World) (B : Nat) (v : Value) (xs : List Int) : Prop := RL bd 1 (flat cI) w B v xs
abbrev RStrs (bd : Nat) (w : World) (B : Nat) (v : Value) (xs : List ByteArray) : Prop := RL bd 1 (flat cS) w B v xs

theorem bcell {W w1 : World} {B : Nat} (hb : Below B W w1) : (∀ b o, b < B → w1.cell? ⟨b, o, none⟩ = W.cell? ⟨b, o, none⟩) ∧ (∀ b o, b < B → w1.frozen? ⟨b, o, none⟩ = W.frozen? ⟨b, o, none⟩) :=
  ⟨fun b o h => hb.cell (p := ⟨b, o, none⟩) h, fun b o h => hb.frozen (p := ⟨b, o, none⟩) h⟩

theorem heap_alloc_if (w : World) (o : Obj) (k : Nat) : (w.alloc o).heap[k]? = if k = w.heap.size then some o else w.heap[k]? := by
  show (w.heap.push o)[k]? = _
  rw [Array.getElem?_push]
theorem blk_next {w w' : World} {b : Nat} {o : Obj} (h : w.heap[b]? = some o) (hb : Below w.heap.size w w') : w'.heap[b]? = some o := (hb.block b (lt_of_block h)).trans h
theorem bstep {a b c : World} (h : Below a.heap.size a b) (k : Below b.heap.size b c) : Below a.heap.size a c := h.trans (k.mono h.size)
/-- A later world, below block B as W was: a structure of its own, so that the walk does not take it apart. -/
structure Ext (B : Nat) (W : World) where
  world : World
  ok : Below B W world
instance Ext.ne (B : Nat) (W : World) : Nonempty (Ext B W) := ⟨⟨W, Below.refl B W⟩⟩
theorem wp_region_ext {P : Program} {id : Nat} {Q : Exit → Act → World → Prop} {a : Act} {w : World} {l : List Oper} (B : Nat) (hm : P.follows .mixedOrders = true) (hB : Region.lexB .any l.toArray = true)
    (h : wpQuiet P l.toArray (fun w' => ∃ x : Ext B w, w' = x.world) (fun a' => ∀ w', (∃ x : Ext B w, w' = x.world) → Q .normal a' w') l a) : (Code.region id l.toArray true).wp P Q a w :=
  wp_region_quiet (C := fun w' => ∃ x : Ext B w, w' = x.world) hm hB ⟨⟨w.drew, (Below.refl B w).drew⟩, rfl⟩ (by simpa using h)
theorem Ext.cells {B : Nat} {W : World} (x : Ext B W) {b o : Nat} (h : b < B) : x.world.cell? ⟨b, o, none⟩ = W.cell? ⟨b, o, none⟩ := x.ok.cell (p := ⟨b, o, none⟩) h
theorem Ext.size {B : Nat} {W : World} (x : Ext B W) : W.heap.size ≤ x.world.heap.size := x.ok.size
/-- A callee's contract, met in a later world. -/
theorem ext_call {P : Program} {f : FuncId} {args : Array Value} {B : Nat} {W : World} {x : Ext B W} {v : Value} (hB : B ≤ W.heap.size)
    (h : Calls P f args x.world fun e w' => e = .returned v ∧ Below x.world.heap.size x.world w') : Calls P f args x.world fun e w'' => e = .returned v ∧ ∃ y : Ext B W, w'' = y.world :=
  h.mono fun _ w' ⟨he, hb⟩ => ⟨he, ⟨w', x.ok.trans (hb.mono (Nat.le_trans hB x.size))⟩, rfl⟩
theorem ext_call_same {P : Program} {f : FuncId} {args : Array Value} {B : Nat} {W : World} {x : Ext B W} {v : Value}
    (h : Calls P f args x.world fun e w' => e = .returned v ∧ x.world = w') : Calls P f args x.world fun e w'' => e = .returned v ∧ ∃ y : Ext B W, w'' = y.world :=
  h.mono fun _ w' ⟨he, hb⟩ => ⟨he, x, hb.symm⟩
theorem quiet_left {P : Program} {f : FuncId} {args : Array Value} {w : World} {n : Nat} {v : Value}
    (h : Calls P f args (w.drewN n) fun e w' => e = .returned v ∧ w.drewN n = w') : Calls P f args (w.drewN n) fun e w'' => e = .returned v ∧ ∃ m, w'' = w.drewN m :=
  h.mono fun _ _ ⟨he, hm⟩ => ⟨he, n, hm.symm⟩
theorem below_drewN {B : Nat} {a w : World} (h : Below B a w) (n : Nat) : Below B a (w.drewN n) := ⟨h.os, h.tape, h.output, h.size, h.block⟩
theorem results_tmp4 {fn : Func} {t u v x : Tmp} (h : fn.results = #[.tmp t, .tmp u, .tmp v, .tmp x]) (tmps : Array Value) (P : Program) (w : World) :
    (results fn tmps).run P w = .ok (.tuple #[tmps.getD t undef, tmps.getD u undef, tmps.getD v undef, tmps.getD x undef]) w := by simp [results, h]
end Go.Proofs.YteamlfcfillbjaaGreat
