/-
  The words for memory that all walks of this family use: a slice that reads as a list (RL), and small facts. No program is named here.
-/
import Derived.WalkKit
import Derived.WalkSpells
import Derived.WalkLawsBesides
import Derived.BigQuiet
import Derived.Deep.QuietTactic
import Derived.IntWalk
import Derived.Lib.Hide
import Derived.Laws.OwnMore
import Derived.Deep.Draws
namespace Go.Proofs.Ytgljohibcglnbaa
set_option linter.unusedVariables false
set_option linter.unusedSimpArgs false
open Go.RowKit

theorem ret_int {k : IntKind} {a b : Int} (h : a = b) : Ending.returned (.int k a) = .returned (.int k b) := by rw [h]
theorem ret_bool {a b : Bool} (h : a = b) : Ending.returned (.bool a) = .returned (.bool b) := by rw [h]
theorem ret_str {a b : ByteArray} (h : a = b) : Ending.returned (.string a) = .returned (.string b) := by rw [h]

/-- What is said of an element's cells does not turn where memory below B does not. -/
def RMono {α : Type} (R : World → Nat → List Value → α → Prop) : Prop :=
  ∀ (w w' : World) (B B' : Nat) (cs : List Value) (x : α), (∀ p : Addr, p.block < B → w'.cell? p = w.cell? p) → B ≤ B' → R w B cs x → R w' B' cs x

/-- The slice value v reads as the list xs: each element lies in k cells, of which R tells; all below block B; at most bd elements. -/
def RL {α : Type} (bd k : Nat) (R : World → Nat → List Value → α → Prop) (w : World) (B : Nat) (v : Value) (xs : List α) : Prop :=
  ∃ (A : Option Addr) (c : Nat), v = .slice A xs.length c ∧ xs.length ≤ bd ∧ (0 < xs.length → ∃ b off, A = some ⟨b, off, none⟩ ∧ b < B ∧
    ∀ (i : Nat) (x : α), xs[i]? = some x → ∃ cs, cs.length = k ∧ R w B cs x ∧ ∀ (j : Nat) (u : Value), cs[j]? = some u → w.cell? ⟨b, off + i * k + j, none⟩ = some u)

section
variable {α : Type} {bd k : Nat} {R : World → Nat → List Value → α → Prop} {w w' : World} {B B' : Nat} {v : Value} {xs : List α}
theorem RL.keep (h : RL bd k R w B v xs) (hm : RMono R) (hk : ∀ p : Addr, p.block < B → w'.cell? p = w.cell? p) (hB : B ≤ B') : RL bd k R w' B' v xs := by
  obtain ⟨A, c, rfl, hb, h⟩ := h
  refine ⟨A, c, rfl, hb, fun hn => ?_⟩
  obtain ⟨b, off, rfl, hlt, hc⟩ := h hn
  refine ⟨b, off, rfl, by omega, fun i x hx => ?_⟩
  obtain ⟨cs, hl, hR, hcs⟩ := hc i x hx
  exact ⟨cs, hl, hm _ _ _ _ _ _ hk hB hR, fun j u hu => (hk _ hlt).trans (hcs j u hu)⟩
theorem RL.below (h : RL bd k R w B v xs) (hm : RMono R) (hb : Below B w w') : RL bd k R w' B v xs := h.keep hm (fun _ hp => hb.cell hp) (Nat.le_refl _)
theorem RL.more (h : RL bd k R w B v xs) (hm : RMono R) (hB : B ≤ B') : RL bd k R w B' v xs := h.keep hm (fun _ _ => rfl) hB
theorem RL.wide {bd' : Nat} (h : RL bd k R w B v xs) (hb : xs.length ≤ bd') : RL bd' k R w B v xs := by
  obtain ⟨A, c, rfl, _, h⟩ := h
  exact ⟨A, c, rfl, hb, h⟩
end

/-- Elements of fixed cells: no memory is asked. -/
def flat {α : Type} (f : α → List Value) : World → Nat → List Value → α → Prop := fun _ _ cs x => cs = f x
theorem flat_mono {α : Type} (f : α → List Value) : RMono (flat f) := fun _ _ _ _ _ _ _ _ h => h

def cI (n : Int) : List Value := [.int .i64 n]
def cS (s : ByteArray) : List Value := [.string s]
/-- []int, []string -/
abbrev RInts (bd : Nat) (w : World) (B : Nat) (v : Value) (xs : List Int) : Prop := RL bd 1 (flat cI) w B v xs
abbrev RStrs (bd : Nat) (w : World) (B : Nat) (v : Value) (xs : List ByteArray) : Prop := RL bd 1 (flat cS) w B v xs

theorem bcell {W w1 : World} {B : Nat} (hb : Below B W w1) : (∀ b o, b < B → w1.cell? ⟨b, o, none⟩ = W.cell? ⟨b, o, none⟩) ∧ (∀ b o, b < B → w1.frozen? ⟨b, o, none⟩ = W.frozen? ⟨b, o, none⟩) :=
  ⟨fun b o h => hb.cell (p := ⟨b, o, none⟩) h, fun b o h => hb.frozen (p := ⟨b, o, none⟩) h⟩

/-- A later world, below block B as W was: a structure of its own, so that the walk does not take it apart. -/
structure Ext (B : Nat) (W : World) where
  world : World
  ok : Below B W world
theorem wp_region_ext {P : Program} {id : Nat} {Q : Exit → Act → World → Prop} {a : Act} {w : World} {l : List Oper} (B : Nat) (hm : P.follows .mixedOrders = true) (hB : Region.lexB .any l.toArray = true)
    (h : wpQuiet P l.toArray (fun w' => ∃ x : Ext B w, w' = x.world) (fun a' => ∀ w', (∃ x : Ext B w, w' = x.world) → Q .normal a' w') l a) : (Code.region id l.toArray true).wp P Q a w :=
  wp_region_quiet (C := fun w' => ∃ x : Ext B w, w' = x.world) hm hB ⟨⟨w.drew, (Below.refl B w).drew⟩, rfl⟩ (by simpa using h)
theorem Ext.cells {B : Nat} {W : World} (x : Ext B W) {b o : Nat} (h : b < B) : x.world.cell? ⟨b, o, none⟩ = W.cell? ⟨b, o, none⟩ := x.ok.cell (p := ⟨b, o, none⟩) h
theorem Ext.size {B : Nat} {W : World} (x : Ext B W) : W.heap.size ≤ x.world.heap.size := x.ok.size
/-- A callee's contract, met in a later world. -/
theorem ext_call {P : Program} {f : FuncId} {args : Array Value} {B : Nat} {W : World} {x : Ext B W} {v : Value} (hB : B ≤ W.heap.size)
    (h : Calls P f args x.world fun e w' => e = .returned v ∧ Below x.world.heap.size x.world w') : Calls P f args x.world fun e w'' => e = .returned v ∧ ∃ y : Ext B W, w'' = y.world :=
  h.mono fun _ w' ⟨he, hb⟩ => ⟨he, ⟨w', x.ok.trans (hb.mono (Nat.le_trans hB x.size))⟩, rfl⟩
theorem ext_call_same {P : Program} {f : FuncId} {args : Array Value} {B : Nat} {W : World} {x : Ext B W} {v : Value}
    (h : Calls P f args x.world fun e w' => e = .returned v ∧ x.world = w') : Calls P f args x.world fun e w'' => e = .returned v ∧ ∃ y : Ext B W, w'' = y.world :=
  h.mono fun _ w' ⟨he, hb⟩ => ⟨he, x, hb.symm⟩
theorem quiet_left {P : Program} {f : FuncId} {args : Array Value} {w : World} {n : Nat} {v : Value}
    (h : Calls P f args (w.drewN n) fun e w' => e = .returned v ∧ w.drewN n = w') : Calls P f args (w.drewN n) fun e w'' => e = .returned v ∧ ∃ m, w'' = w.drewN m :=
  h.mono fun _ _ ⟨he, hm⟩ => ⟨he, n, hm.symm⟩
theorem below_drewN {B : Nat} {a w : World} (h : Below B a w) (n : Nat) : Below B a (w.drewN n) := ⟨h.os, h.tape, h.output, h.size, h.block⟩
theorem results_tmp4 {fn : Func} {t u v x : Tmp} (h : fn.results = #[.tmp t, .tmp u, .tmp v, .tmp x]) (tmps : Array Value) (P : Program) (w : World) :
    (results fn tmps).run P w = .ok (.tuple #[tmps.getD t undef, tmps.getD u undef, tmps.getD v undef, tmps.getD x undef]) w := by simp [results, h]
end Go.Proofs.Ytgljohibcglnbaa
