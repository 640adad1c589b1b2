/-
  The orders in other measures (Scaled, Heavier): both sides.
-/
import Derived.Test.YteamlfcfillbjaaGreatRw
namespace Go.Proofs.YteamlfcfillbjaaGreat
set_option linter.unusedVariables false
set_option linter.unusedSimpArgs false
set_option maxRecDepth 100000
open Go.RowKit
def Item.scaled (n : Int) (x : Item) : Item := ⟨x.id, wrap64 (n * x.w), wrap64 (n * x.h), wrap64 (n * x.d), x.gram, x.cls, x.count⟩
def GType.scaled (n : Int) (x : GType) : GType := ⟨x.id, wrap64 (n * x.w), wrap64 (n * x.h), wrap64 (n * x.d), x.tare, x.gram, x.cost⟩
def Pallet.scaled (n : Int) (x : Pallet) : Pallet := ⟨wrap64 (n * x.w), wrap64 (n * x.d), wrap64 (n * x.h), x.gram⟩
def Item.heavier (n : Int) (x : Item) : Item := ⟨x.id, x.w, x.h, x.d, wrap64 (n * x.gram), x.cls, x.count⟩
def GType.heavier (n : Int) (x : GType) : GType := ⟨x.id, x.w, x.h, x.d, wrap64 (n * x.tare), wrap64 (n * x.gram), x.cost⟩
def Pallet.heavier (n : Int) (x : Pallet) : Pallet := ⟨x.w, x.d, x.h, wrap64 (n * x.gram)⟩
def timesReq (fi : Item → Item) (ft : GType → GType) (fp : Pallet → Pallet) (r : Request) : Request := { r with pallet := fp r.pallet, types := r.types.map ft, items := r.items.map fi }
def multiplied (fi : Item → Item) (ft : GType → GType) (fp : Pallet → Pallet) (r : Request) (n : Int) : Request × Bool := if (inB n 1 100 && soundR r) = true then (if soundR (timesReq fi ft fp r) = true then (timesReq fi ft fp r, true) else (r, false)) else (r, false)
def scaled (r : Request) (n : Int) : Request × Bool := multiplied (Item.scaled n) (GType.scaled n) (Pallet.scaled n) r n
def heavier (r : Request) (n : Int) : Request × Bool := multiplied (Item.heavier n) (GType.heavier n) (Pallet.heavier n) r n
theorem timesReq_bulk (fi : Item → Item) (ft : GType → GType) (fp : Pallet → Pallet) (r : Request) : (timesReq fi ft fp r).bulk = r.bulk := by simp [timesReq, Request.bulk]
theorem multiplied_bulk (fi : Item → Item) (ft : GType → GType) (fp : Pallet → Pallet) (r : Request) (n : Int) : (multiplied fi ft fp r n).1.bulk ≤ r.bulk + 1 := by
  have := timesReq_bulk fi ft fp r
  unfold multiplied
  split
  · split
    · show (timesReq fi ft fp r).bulk ≤ _; omega
    · show r.bulk ≤ _; omega
  · show r.bulk ≤ _; omega
/-- what a call that changes one element in place leaves -/
def PutPost {α : Type} (f : α → List Value) (e K : Nat) (W : World) (bs : Nat) (v : Value) (ys : List α) (fp : List Nat) (ed : Ending) (w' : World) : Prop := ed = .returned (.tuple #[]) ∧ OF f e K w' bs v ys fp ∧ Tch fp W w'
/-- what a call that changes an order's pallet in its box leaves -/
def PalPost (W : World) (g : Nat) (cs : Array Value) (t : TypeId) (ed : Ending) (w' : World) : Prop := ed = .returned (.tuple #[]) ∧ w'.heap[g]? = some (.cells cs t (0, 0)) ∧ Tch [g] W w'
theorem wrapEq (n : Int) : IntKind.i64.wrap n = wrap64 n := by rw [IntKind.wrap_i64]; unfold wrap64; omega
theorem AtB.drew {B : Nat} {W w : World} {g : Nat} {t : TypeId} {cs : Array Value} (h : AtB B W g t cs w) : AtB B W g t cs w.drew := ⟨h.os, h.tape, h.output, h.size, h.block, h.blk⟩
theorem palpost_of {w W : World} {g : Nat} {t : TypeId} {cs cs' : Array Value} (h : AtB w.heap.size w g t cs W) (hc : cs = cs') : PalPost w g cs' t (.returned (.tuple #[])) W := by
  subst hc
  exact ⟨rfl, h.blk, ⟨h.os, h.tape, h.output, h.size, fun k hk hn => h.block k hk (by simpa using hn)⟩⟩
set_option maxHeartbeats 1000000 in
theorem heavier1_any (n : Int) (g m c bs cb k : Nat) (xs : List Item) (fp : List Nat) (x : Item) (w : World) (h : OF Item.cells 41 7 w bs (.slice (some ⟨g, 0, none⟩) m c) xs fp) (hx : xs[k]? = some x) (hn : w.cell? ⟨cb, 0, none⟩ = some (.int .i64 n)) (hne : cb ∉ fp) :
    Calls Tryz.prog 46 #[.pointer (some ⟨g, k * 7, none⟩), .pointer (some ⟨cb, 0, none⟩)] w (PutPost Item.cells 41 7 w bs (.slice (some ⟨g, 0, none⟩) m c) (xs.set k (x.heavier n)) fp) := by
  have hp := h.put (fun _ => rfl) hx (j := 4) (us := [.int .i64 (wrap64 (x.gram * n))]) (y := x.heavier n) (by simp) (by rw [Int.mul_comm]; rfl)
  have hm : m = xs.length := by obtain ⟨A, c', hv, _⟩ := h.form; injection hv
  subst hm
  have hk := (List.getElem?_eq_some_iff.1 hx).1
  have hrd : RL xs.length 7 (flat Item.cells) w w.heap.size (.slice (some ⟨g, 0, none⟩) xs.length c) xs := OF.read h (fun _ => rfl) (Nat.le_refl _)
  obtain ⟨g2, off, x', _, hA, hg2, hx', _, hfx, hc⟩ := hrd.at_ k hk
  cases hA
  cases hfx
  rw [hx] at hx'
  cases hx'
  simp only [Nat.zero_add] at hc
  have hc0 := hc 0 _ rfl; have hc1 := hc 1 _ rfl; have hc2 := hc 2 _ rfl; have hc3 := hc 3 _ rfl; have hc4 := hc 4 _ rfl; have hc5 := hc 5 _ rfl; have hc6 := hc 6 _ rfl; simp only [Nat.add_zero] at hc0
  have hfz := h.1.frozenAt
  have HP := Lib.hid hp
  have hgb : ¬ (g = cb) := fun e => hne (e ▸ hp.2)
  have hbg : ¬ (cb = g) := fun e => hgb e.symm
  clear h hx hp hrd hc hne
  go_enter Tryz.func46, Tryz.ntmps46
  all_goals go_wp2
  all_goals (go_region_with fail)
  all_goals go_wp2
  all_goals refine bodyPost_ret (v := .tuple #[]) (by simp [results, Tryz.results46, go_sem]) rfl ?_
  all_goals simp only [wrapEq]
  all_goals exact ⟨rfl, HP.out.1.next (Below.refl _ _).drew, (Tch.setW HP.out.2 [.int .i64 (wrap64 (x.gram * n))] w (k * 7 + 4) (Tch.refl _ _)).drew⟩
set_option maxHeartbeats 1000000 in
theorem heavier2_any (n : Int) (g m c bs cb k : Nat) (xs : List GType) (fp : List Nat) (x : GType) (w : World) (h : OF GType.cells 67 7 w bs (.slice (some ⟨g, 0, none⟩) m c) xs fp) (hx : xs[k]? = some x) (hn : w.cell? ⟨cb, 0, none⟩ = some (.int .i64 n)) (hne : cb ∉ fp) :
    Calls Tryz.prog 47 #[.pointer (some ⟨g, k * 7, none⟩), .pointer (some ⟨cb, 0, none⟩)] w (PutPost GType.cells 67 7 w bs (.slice (some ⟨g, 0, none⟩) m c) (xs.set k (x.heavier n)) fp) := by
  have hp := h.put (fun _ => rfl) hx (j := 5) (us := [.int .i64 (wrap64 (x.gram * n))]) (y := ⟨x.id, x.w, x.h, x.d, x.tare, wrap64 (x.gram * n), x.cost⟩) (by simp) rfl
  have hp2 := hp.1.put (fun _ => rfl) (List.getElem?_set_self (List.getElem?_eq_some_iff.1 hx).1) (j := 4) (us := [.int .i64 (wrap64 (x.tare * n))]) (y := x.heavier n) (by simp) (by unfold GType.heavier; rw [Int.mul_comm n, Int.mul_comm n]; rfl)
  rw [List.set_set] at hp2
  have hm : m = xs.length := by obtain ⟨A, c', hv, _⟩ := h.form; injection hv
  subst hm
  have hk := (List.getElem?_eq_some_iff.1 hx).1
  have hrd : RL xs.length 7 (flat GType.cells) w w.heap.size (.slice (some ⟨g, 0, none⟩) xs.length c) xs := OF.read h (fun _ => rfl) (Nat.le_refl _)
  obtain ⟨g2, off, x', _, hA, hg2, hx', _, hfx, hc⟩ := hrd.at_ k hk
  cases hA
  cases hfx
  rw [hx] at hx'
  cases hx'
  simp only [Nat.zero_add] at hc
  have hc0 := hc 0 _ rfl; have hc1 := hc 1 _ rfl; have hc2 := hc 2 _ rfl; have hc3 := hc 3 _ rfl; have hc4 := hc 4 _ rfl; have hc5 := hc 5 _ rfl; have hc6 := hc 6 _ rfl; simp only [Nat.add_zero] at hc0
  have hfz := h.1.frozenAt
  have HP := Lib.hid hp2
  have HM := Lib.hid hp.2
  have hgb : ¬ (g = cb) := fun e => hne (e ▸ hp.2)
  have hbg : ¬ (cb = g) := fun e => hgb e.symm
  clear h hx hp hp2 hrd hc hne
  go_enter Tryz.func47, Tryz.ntmps47
  all_goals go_wp2
  all_goals (go_region_with fail)
  all_goals go_wp2
  all_goals (go_region_with fail)
  all_goals go_wp2
  all_goals refine bodyPost_ret (v := .tuple #[]) (by simp [results, Tryz.results47, go_sem]) rfl ?_
  all_goals simp only [wrapEq]
  all_goals exact ⟨rfl, HP.out.1.next (Below.refl _ _).drew.drew, (Tch.setW HP.out.2 [.int .i64 (wrap64 (x.tare * n))] _ (k * 7 + 4) (Tch.setW HM.out [.int .i64 (wrap64 (x.gram * n))] w (k * 7 + 5) (Tch.refl _ _))).drew.drew⟩
set_option maxHeartbeats 1000000 in
theorem heavier3_any (n : Int) (g cb : Nat) (r : Request) (vp vt vi : Value) (t : TypeId) (w : World) (h : w.heap[g]? = some (.cells (r.row vp vt vi) t (0, 0))) (hn : w.cell? ⟨cb, 0, none⟩ = some (.int .i64 n)) (hne : ¬ (cb = g)) :
    Calls Tryz.prog 48 #[.pointer (some ⟨g, 1, none⟩), .pointer (some ⟨cb, 0, none⟩)] w (PalPost w g ({ r with pallet := r.pallet.heavier n }.row vp vt vi) t) := by
  have k0 := fun j => cell_of_row _ _ j _ _ (0, 0) h
  have f0 := fun j => frozen_of_row _ _ j _ _ h
  have hk4 := k0 4
  simp only [Request.row] at hk4
  simp at hk4
  have hA := ((AtB.here (B := w.heap.size) h).store 4 (.int .i64 (wrap64 (r.pallet.gram * n))))
  simp only [Request.row, List.setIfInBounds_toArray, List.set_cons_zero, List.set_cons_succ] at hA
  rw [Int.mul_comm] at hA
  have HA := Lib.hid hA
  have hmc := Int.mul_comm r.pallet.gram n
  clear hA
  have hgb : ¬ (g = cb) := fun e => hne e.symm
  clear h k0
  go_enter Tryz.func48, Tryz.ntmps48
  all_goals go_wp2
  all_goals (go_region_with fail)
  all_goals go_wp2
  all_goals refine bodyPost_ret (v := .tuple #[]) (by simp [results, Tryz.results48, go_sem]) rfl ?_
  all_goals simp only [wrapEq]
  all_goals exact palpost_of HA.out.drew rfl
end Go.Proofs.YteamlfcfillbjaaGreat
