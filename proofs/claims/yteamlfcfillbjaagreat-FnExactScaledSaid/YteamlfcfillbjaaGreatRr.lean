/-
  Orders of the call's own; the walks over the laws' helpers for orders: sizes, copies, comparisons, marks.
-/
import Derived.Test.YteamlfcfillbjaaGreatOf
import Derived.Test.YteamlfcfillbjaaGreatMk
import Derived.Test.YteamlfcfillbjaaGreatRd
import Derived.Deep.Light
namespace Go.Proofs.YteamlfcfillbjaaGreat
set_option linter.unusedVariables false
set_option linter.unusedSimpArgs false
set_option maxRecDepth 100000
open Go.RowKit Go.WideShapes Go.ChangeShapes Go.ChangeAt Go.Deep
/-- an order of the call's own; fp: all its blocks -/
def OReq (w : World) (base : Nat) (v : Value) (r : Request) (fp : List Nat) : Prop := ∃ vp vt vi f1 f2 f3, v = .agg (r.row vp vt vi) ∧ OF Pair.cells 81 2 w base vp r.pairs f1 ∧ OF GType.cells 67 7 w base vt r.types f2 ∧ OF Item.cells 41 7 w base vi r.items f3 ∧ fp = f1 ++ (f2 ++ f3) ∧ fp.Nodup
theorem OReq.read {w : World} {base : Nat} {v : Value} {r : Request} {fp : List Nat} (h : OReq w base v r fp) (hb : r.bulk ≤ 16777216) : RReq 16777216 w w.heap.size v r := by
  obtain ⟨vp, vt, vi, f1, f2, f3, rfl, h1, h2, h3, _⟩ := h
  unfold Request.bulk at hb
  exact ⟨vp, vt, vi, rfl, h1.read (fun _ => rfl) (by omega), h2.read (fun _ => rfl) (by omega), h3.read (fun _ => rfl) (by omega)⟩
theorem OReq.form {w : World} {base : Nat} {v : Value} {r : Request} {fp : List Nat} (h : OReq w base v r fp) : ∃ A1 c1 A2 c2 A3 c3, v = .agg #[.int .i64 r.way, .int .i64 r.pallet.w, .int .i64 r.pallet.d, .int .i64 r.pallet.h, .int .i64 r.pallet.gram, .int .i64 r.classes, .slice A1 r.pairs.length c1, .slice A2 r.types.length c2, .int .i64 r.master, .slice A3 r.items.length c3] := by
  obtain ⟨vp, vt, vi, f1, f2, f3, rfl, h1, h2, h3, _⟩ := h
  obtain ⟨A1, c1, rfl, _⟩ := h1.form
  obtain ⟨A2, c2, rfl, _⟩ := h2.form
  obtain ⟨A3, c3, rfl, _⟩ := h3.form
  exact ⟨_, _, _, _, _, _, rfl⟩
theorem OReq.lt {w : World} {base : Nat} {v : Value} {r : Request} {fp : List Nat} (h : OReq w base v r fp) : ∀ b ∈ fp, base ≤ b ∧ b < w.heap.size := by
  obtain ⟨vp, vt, vi, f1, f2, f3, rfl, h1, h2, h3, rfl, _⟩ := h
  intro b hb
  simp only [List.mem_append] at hb
  rcases hb with hb | hb | hb
  · exact h1.lt b hb
  · exact h2.lt b hb
  · exact h3.lt b hb
theorem OReq.keep {w w' : World} {base : Nat} {v : Value} {r : Request} {fp : List Nat} (h : OReq w base v r fp) (hk : ∀ b ∈ fp, w'.heap[b]? = w.heap[b]?) : OReq w' base v r fp := by
  obtain ⟨vp, vt, vi, f1, f2, f3, rfl, h1, h2, h3, rfl, hn⟩ := h
  exact ⟨vp, vt, vi, f1, f2, f3, rfl, h1.keep (fun b hb => hk b (by simp [hb])), h2.keep (fun b hb => hk b (by simp [hb])), h3.keep (fun b hb => hk b (by simp [hb])), rfl, hn⟩
theorem OReq.next {w w' : World} {base : Nat} {v : Value} {r : Request} {fp : List Nat} (h : OReq w base v r fp) (hb : Below w.heap.size w w') : OReq w' base v r fp := h.keep fun b hm => hb.block b (h.lt b hm).2
theorem OReq.tch {w w' : World} {base : Nat} {v : Value} {r : Request} {fp fp' : List Nat} (h : OReq w base v r fp) (ht : Tch fp' w w') (hd : ∀ b ∈ fp, b ∈ fp' → False) : OReq w' base v r fp := h.keep fun b hb => ht.block b (h.lt b hb).2 (hd b hb)
theorem OReq.base {w : World} {b B : Nat} {v : Value} {r : Request} {fp : List Nat} (h : OReq w b v r fp) (hB : B ≤ b) : OReq w B v r fp := by
  obtain ⟨vp, vt, vi, f1, f2, f3, rfl, h1, h2, h3, rfl, hn⟩ := h
  exact ⟨vp, vt, vi, f1, f2, f3, rfl, h1.base hB, h2.base hB, h3.base hB, rfl, hn⟩
/-- three lists, made one behind the other, lie apart -/
theorem nodup3 {f1 f2 f3 : List Nat} {a b : Nat} (h1 : f1.Nodup) (h2 : f2.Nodup) (h3 : f3.Nodup) (l1 : ∀ k ∈ f1, k < a) (l2 : ∀ k ∈ f2, a ≤ k ∧ k < b) (l3 : ∀ k ∈ f3, b ≤ k) (hab : a ≤ b) : (f1 ++ (f2 ++ f3)).Nodup := by
  rw [List.nodup_append, List.nodup_append]
  refine ⟨h1, ⟨h2, h3, fun x hx y hy e => ?_⟩, fun x hx y hy e => ?_⟩
  · have := (l2 x hx).2; have := l3 y hy; omega
  · have := l1 x hx
    rcases List.mem_append.1 hy with hy | hy
    · have := (l2 y hy).1; omega
    · have := l3 y hy; omega
set_option maxRecDepth 100000 in
set_option maxHeartbeats 1000000 in
theorem toRequest_any (v : Value) (r : Request) (w : World) (h : RReq 16777216 w w.heap.size v r) :
    Calls Tryz.prog 9 #[v] w fun e w' => ∃ v' fp, e = .returned v' ∧ OReq w' w.heap.size v' r fp ∧ Below w.heap.size w w' := by
  obtain ⟨A1, c1, A2, c2, A3, c3, rfl, ⟨H1, H2, H3⟩, _⟩ := h.opn
  obtain ⟨W0, hW0⟩ : ∃ W, W = lay w [.cells #[.int .i64 r.way, .int .i64 r.pallet.w, .int .i64 r.pallet.d, .int .i64 r.pallet.h, .int .i64 r.pallet.gram, .int .i64 r.classes, .slice A1 r.pairs.length c1, .slice A2 r.types.length c2, .int .i64 r.master, .slice A3 r.items.length c3] 28, .cells #[.int .i64 0, .int .i64 0, .int .i64 0, .int .i64 0, .int .i64 0, .int .i64 0, .slice none 0 0, .slice none 0 0, .int .i64 0, .slice none 0 0] 37, .cells #[.int .i64 r.way, .int .i64 0, .int .i64 0, .int .i64 0, .int .i64 0, .int .i64 0, .slice none 0 0, .slice none 0 0, .int .i64 0, .slice none 0 0] 37] := ⟨_, rfl⟩
  have hx0 : W0.heap[w.heap.size]? = some (.cells #[.int .i64 r.way, .int .i64 r.pallet.w, .int .i64 r.pallet.d, .int .i64 r.pallet.h, .int .i64 r.pallet.gram, .int .i64 r.classes, .slice A1 r.pairs.length c1, .slice A2 r.types.length c2, .int .i64 r.master, .slice A3 r.items.length c3] 28 (0, 0)) := by rw [hW0]; exact lay_at _ w 0 _ rfl
  have hx1 : W0.heap[w.heap.size + 1]? = some (.cells #[.int .i64 0, .int .i64 0, .int .i64 0, .int .i64 0, .int .i64 0, .int .i64 0, .slice none 0 0, .slice none 0 0, .int .i64 0, .slice none 0 0] 37 (0, 0)) := by rw [hW0]; exact lay_at _ w 1 _ rfl
  have hx2 : W0.heap[w.heap.size + 1 + 1]? = some (.cells #[.int .i64 r.way, .int .i64 0, .int .i64 0, .int .i64 0, .int .i64 0, .int .i64 0, .slice none 0 0, .slice none 0 0, .int .i64 0, .slice none 0 0] 37 (0, 0)) := by rw [hW0]; exact lay_at _ w 2 _ rfl
  have hlow : Below w.heap.size w W0 := by rw [hW0]; exact lay_below _ _
  have hsz : W0.heap.size = w.heap.size + 3 := by rw [hW0]; exact lay_heap _ _
  have HX0 := Lib.hid hx0
  have HX1 := Lib.hid hx1
  have HX2 := Lib.hid hx2
  have HLW := Lib.hid hlow
  have HSZ := Lib.hid hsz
  have HW0 := Lib.hid hW0
  clear h hx0 hx1 hx2 hlow hsz hW0
  go_enter Tryz.func9, Tryz.ntmps9
  go_wp2_with fail
  refine (toPallet_any r.pallet _).mono ?_
  rintro e w2 ⟨rfl, hb2⟩
  have hb2' : Below W0.heap.size W0 w2 := by rw [HW0.out]; exact hb2
  have a2 := (AtB.here (B := w.heap.size + 3) HX2.out).next hb2' (Nat.le_of_eq HSZ.out.symm)
  have A2' := Lib.hid a2
  have k1 := a2.cells
  have k2 := a2.free
  have k3 := a2.oldc (by omega) (by omega) HX0.out
  have k4 := a2.lt
  clear a2 hb2 hb2'
  go_wp2_with fail
  have a3 : AtB (w.heap.size + 3) W0 (w.heap.size + 1 + 1) 37 #[.int .i64 r.way, .int .i64 r.pallet.w, .int .i64 r.pallet.d, .int .i64 r.pallet.h, .int .i64 r.pallet.gram, .int .i64 r.classes, .slice none 0 0, .slice none 0 0, .int .i64 0, .slice none 0 0] _ := ((((A2'.out.store 1 (.int .i64 r.pallet.w)).store 2 (.int .i64 r.pallet.d)).store 3 (.int .i64 r.pallet.h)).store 4 (.int .i64 r.pallet.gram)).store 5 (.int .i64 r.classes)
  refine (toPairS_any _ r.pairs _ (H1.out.next (flat_mono _) (a3.low HLW.out (by omega) (by omega)))).mono ?_
  rintro e w4 ⟨u1, rfl, ho1, hb4⟩
  obtain ⟨B1, d1, rfl, _⟩ := own_form2 ho1
  have a4 := a3.next hb4 (Nat.le_of_eq HSZ.out.symm)
  have hs4 := a3.size
  have A4' := Lib.hid a4
  have HO1 := Lib.hid (own_base ho1 (B' := w.heap.size + 3) (by have := HSZ.out; omega))
  clear k1 k2 k3 k4
  have k1 := a4.cells
  have k2 := a4.free
  have k3 := a4.oldc (by omega) (by omega) HX0.out
  have k4 := a4.lt
  clear a3 a4 hb4 ho1 hs4
  go_wp2_with fail
  have a5 : AtB (w.heap.size + 3) W0 (w.heap.size + 1 + 1) 37 #[.int .i64 r.way, .int .i64 r.pallet.w, .int .i64 r.pallet.d, .int .i64 r.pallet.h, .int .i64 r.pallet.gram, .int .i64 r.classes, .slice B1 r.pairs.length d1, .slice none 0 0, .int .i64 0, .slice none 0 0] _ := A4'.out.store 6 (.slice B1 r.pairs.length d1)
  refine (toTypeS_any _ r.types _ (H2.out.next (flat_mono _) (a5.low HLW.out (by omega) (by omega)))).mono ?_
  rintro e w6 ⟨u2, rfl, ho2, hb6⟩
  obtain ⟨B2, d2, rfl, _⟩ := own_form2 ho2
  have a6 := a5.next hb6 (Nat.le_of_eq HSZ.out.symm)
  have hf1 := HO1.out.lt
  have HP1 := Lib.hid (own_block (w' := w6) HO1.out (fun k hk => (hb6.block k (by have := (hf1 k hk).2; simpa [World.setCell] using this)).trans (Below.heap_setCell _ _ _ _ (by have := (hf1 k hk).1; show k ≠ w.heap.size + 1 + 1; omega))))
  have HL1 := Lib.hid (fun k (hk : Value.ownBlock (.slice B1 r.pairs.length d1) = some k) => (⟨(hf1 k hk).1, (hf1 k hk).2⟩ : w.heap.size + 3 ≤ k ∧ k < w4.heap.size))
  have HS6 := Lib.hid (show w4.heap.size ≤ w6.heap.size by have := hb6.size; simpa [World.setCell] using this)
  have HO2 := Lib.hid (own_base ho2 (B' := w4.heap.size) (by simp [World.setCell]))
  have A6' := Lib.hid a6
  have HZ4 := Lib.hid (show w.heap.size + 3 ≤ w4.heap.size by have := A4'.out.size; have := HSZ.out; omega)
  clear k1 k2 k3 k4
  have k1 := a6.cells
  have k2 := a6.free
  have k3 := a6.oldc (by omega) (by omega) HX0.out
  have k4 := a6.lt
  clear a5 a6 hb6 ho2 hf1
  go_wp2_with fail
  have a7 : AtB (w.heap.size + 3) W0 (w.heap.size + 1 + 1) 37 #[.int .i64 r.way, .int .i64 r.pallet.w, .int .i64 r.pallet.d, .int .i64 r.pallet.h, .int .i64 r.pallet.gram, .int .i64 r.classes, .slice B1 r.pairs.length d1, .slice B2 r.types.length d2, .int .i64 r.master, .slice none 0 0] _ := (A6'.out.store 7 (.slice B2 r.types.length d2)).store 8 (.int .i64 r.master)
  refine (toItemS_any _ r.items _ (H3.out.next (flat_mono _) (a7.low HLW.out (by omega) (by omega)))).mono ?_
  rintro e w8 ⟨u3, rfl, ho3, hb8⟩
  obtain ⟨B3, d3, rfl, _⟩ := own_form2 ho3
  have a8 := a7.next hb8 (Nat.le_of_eq HSZ.out.symm)
  have hf2 := HO2.out.lt
  have hne : ∀ k, w.heap.size + 3 ≤ k → k < w6.heap.size → w8.heap[k]? = w6.heap[k]? := fun k h1 h2 => (hb8.block k (by simpa [World.setCell] using h2)).trans ((Below.heap_setCell _ _ _ _ (by show k ≠ w.heap.size + 1 + 1; omega)).trans (Below.heap_setCell _ _ _ _ (by show k ≠ w.heap.size + 1 + 1; omega)))
  have HQ1 := Lib.hid (own_block (w' := w8) HP1.out (fun k hk => hne k (HL1.out k hk).1 (Nat.lt_of_lt_of_le (HL1.out k hk).2 HS6.out)))
  have HQ2 := Lib.hid (own_block (w' := w8) HO2.out (fun k hk => hne k (Nat.le_trans HZ4.out (hf2 k hk).1) (hf2 k hk).2))
  have HL2 := Lib.hid (fun k (hk : Value.ownBlock (.slice B2 r.types.length d2) = some k) => (⟨(hf2 k hk).1, (hf2 k hk).2⟩ : w4.heap.size ≤ k ∧ k < w6.heap.size))
  have HQ3 := Lib.hid (own_base ho3 (B' := w6.heap.size) (by simp [World.setCell]))
  have HS8 := Lib.hid (show w6.heap.size ≤ w8.heap.size by have := hb8.size; simpa [World.setCell] using this)
  have A8' := Lib.hid a8
  clear k1 k2 k3 k4 hne
  have k1 := a8.cells
  have k2 := a8.free
  have k4 := a8.lt
  have m1 := a8.oldc (b := w.heap.size + 1) (by omega) (by omega) HX1.out
  have m2 := a8.oldf (b := w.heap.size + 1) (by omega) (by omega) HX1.out
  clear a7 a8 hb8 ho3 hf2
  go_wp2
  refine bodyPost_ret (v := .agg #[.int .i64 r.way, .int .i64 r.pallet.w, .int .i64 r.pallet.d, .int .i64 r.pallet.h, .int .i64 r.pallet.gram, .int .i64 r.classes, .slice B1 r.pairs.length d1, .slice B2 r.types.length d2, .int .i64 r.master, .slice B3 r.items.length d3]) (by simp [results, Tryz.results9, go_sem, m1, m2]) rfl ?_
  have hk : ∀ b, b ≠ w.heap.size + 1 + 1 → b ≠ w.heap.size + 1 → (setW (w8.setCell ⟨w.heap.size + 1 + 1, 9, none⟩ (.slice B3 r.items.length d3)) (w.heap.size + 1) 0 [.int .i64 r.way, .int .i64 r.pallet.w, .int .i64 r.pallet.d, .int .i64 r.pallet.h, .int .i64 r.pallet.gram, .int .i64 r.classes, .slice B1 r.pairs.length d1, .slice B2 r.types.length d2, .int .i64 r.master, .slice B3 r.items.length d3]).heap[b]? = w8.heap[b]? := fun b h1 h2 => (heap_setW h2 _ _ 0).trans (Below.heap_setCell _ _ _ _ h1)
  change ∃ v' fp, _ = Ending.returned v' ∧ OReq (setW (w8.setCell ⟨w.heap.size + 1 + 1, 9, none⟩ (.slice B3 r.items.length d3)) (w.heap.size + 1) 0 [.int .i64 r.way, .int .i64 r.pallet.w, .int .i64 r.pallet.d, .int .i64 r.pallet.h, .int .i64 r.pallet.gram, .int .i64 r.classes, .slice B1 r.pairs.length d1, .slice B2 r.types.length d2, .int .i64 r.master, .slice B3 r.items.length d3]) w.heap.size v' r fp ∧ Below w.heap.size w (setW (w8.setCell ⟨w.heap.size + 1 + 1, 9, none⟩ (.slice B3 r.items.length d3)) (w.heap.size + 1) 0 [.int .i64 r.way, .int .i64 r.pallet.w, .int .i64 r.pallet.d, .int .i64 r.pallet.h, .int .i64 r.pallet.gram, .int .i64 r.classes, .slice B1 r.pairs.length d1, .slice B2 r.types.length d2, .int .i64 r.master, .slice B3 r.items.length d3])
  have l3 := HQ3.out.lt
  have hz4 := HZ4.out
  have hs6 := HS6.out
  refine ⟨_, _, rfl, ⟨_, _, _, _, _, _, rfl, ((OF.mk HQ1.out).base (B := w.heap.size) (by omega)).keep (fun b hb => hk b ?_ ?_), ((OF.mk HQ2.out).base (B := w.heap.size) (by omega)).keep (fun b hb => hk b ?_ ?_), ((OF.mk HQ3.out).base (B := w.heap.size) (by omega)).keep (fun b hb => hk b ?_ ?_), rfl, nodup3 (OF.mk HQ1.out).nodup (OF.mk HQ2.out).nodup (OF.mk HQ3.out).nodup (fun k hk => (HL1.out k (ownBlock_mem hk)).2) (fun k hk => HL2.out k (ownBlock_mem hk)) (fun k hk => (l3 k (ownBlock_mem hk)).1) hs6⟩, below_setW (((A8'.out.store 9 (.slice B3 r.items.length d3)).low HLW.out (by omega) (by omega))) (by omega) _ _⟩
  · have := HL1.out b (ownBlock_mem hb); omega
  · have := HL1.out b (ownBlock_mem hb); omega
  · have := HL2.out b (ownBlock_mem hb); omega
  · have := HL2.out b (ownBlock_mem hb); omega
  · have := l3 b (ownBlock_mem hb); omega
  · have := l3 b (ownBlock_mem hb); omega
set_option maxHeartbeats 1000000 in
theorem szRequest_any (v : Value) (r : Request) (left : Int) (w : World) (h : RReq 9223372036854775807 w w.heap.size v r) (h0 : 0 ≤ left) (h1 : left ≤ 1048576) :
    Calls Tryz.prog 7 #[v, .int .i64 left] w fun e w' => e = .returned (.int .i64 (szR left (r.bulk : Nat))) ∧ Below w.heap.size w w' := by
  obtain ⟨A1, c1, A2, c2, A3, c3, rfl, _, hb1, hb2, hb3, _⟩ := h.opn
  have hW : Below w.heap.size w (w.alloc (.cells #[.int .i64 r.way, .int .i64 r.pallet.w, .int .i64 r.pallet.d, .int .i64 r.pallet.h, .int .i64 r.pallet.gram, .int .i64 r.classes, .slice A1 r.pairs.length c1, .slice A2 r.types.length c2, .int .i64 r.master, .slice A3 r.items.length c3] 28)) := (by repeat' (first | with_reducible exact Below.refl _ _ | with_reducible assumption | with_reducible refine Below.drew ?_ | with_reducible refine Below.alloc ?_ ?_ _ | with_reducible refine Below.setCell ?_ ?_ _ | with_reducible refine below_drewN ?_ _ | (simp; done) | (simp; omega)))
  have HW := Lib.hid hW
  have z1 := fun W => szPairS_any A1 r.pairs.length c1 left W (by unfold maxLen; omega) h0 h1
  clear h hW
  by_cases n1 : left < r.pairs.length
  · have HR := Lib.hid (show szR left (r.bulk : Nat) = -1 by unfold szR Request.bulk; rw [if_pos (by omega)])
    rw [show szR left r.pairs.length = -1 by unfold szR; rw [if_pos n1]] at z1
    have Z1 := Lib.hid z1
    clear z1 n1
    go_enter Tryz.func7, Tryz.ntmps7
    go_wp2_with (go_at_call 21; refine (Z1.out _).mono ?_; rintro e w' ⟨rfl, rfl⟩)
    go_ret
    exact ⟨ret_int HR.out.symm, HW.out⟩
  rw [show szR left r.pairs.length = left - r.pairs.length by unfold szR; rw [if_neg n1]] at z1
  obtain ⟨l2, hl2⟩ : ∃ l, l = left - (r.pairs.length : Int) := ⟨_, rfl⟩
  have g0 : 0 ≤ l2 := by omega
  have g1 : l2 ≤ 1048576 := by omega
  rw [← hl2] at z1
  have Z1 := Lib.hid z1
  have z2 := fun W => szTypeS_any A2 r.types.length c2 l2 W (by unfold maxLen; omega) g0 g1
  by_cases n2 : l2 < r.types.length
  · have HR := Lib.hid (show szR left (r.bulk : Nat) = -1 by unfold szR Request.bulk; rw [if_pos (by omega)])
    rw [show szR l2 r.types.length = -1 by unfold szR; rw [if_pos n2]] at z2
    have Z2 := Lib.hid z2
    clear z1 z2 n1 n2 hl2
    go_enter Tryz.func7, Tryz.ntmps7
    go_wp2_with (first | (go_at_call 21; refine (Z1.out _).mono ?_; rintro e w' ⟨rfl, rfl⟩) | (go_at_call 22; refine (Z2.out _).mono ?_; rintro e w' ⟨rfl, rfl⟩))
    go_ret
    exact ⟨ret_int HR.out.symm, HW.out⟩
  rw [show szR l2 r.types.length = l2 - r.types.length by unfold szR; rw [if_neg n2]] at z2
  obtain ⟨l3, hl3⟩ : ∃ l, l = l2 - (r.types.length : Int) := ⟨_, rfl⟩
  have g2 : 0 ≤ l3 := by omega
  have g3 : l3 ≤ 1048576 := by omega
  rw [← hl3] at z2
  have Z2 := Lib.hid z2
  have z3 := fun W => szItemS_any A3 r.items.length c3 l3 W (by unfold maxLen; omega) g2 g3
  by_cases n3 : l3 < r.items.length
  · have HR := Lib.hid (show szR left (r.bulk : Nat) = -1 by unfold szR Request.bulk; rw [if_pos (by omega)])
    rw [show szR l3 r.items.length = -1 by unfold szR; rw [if_pos n3]] at z3
    have Z3 := Lib.hid z3
    clear z1 z2 z3 n1 n2 n3 hl2 hl3
    go_enter Tryz.func7, Tryz.ntmps7
    go_wp2_with (first | (go_at_call 21; refine (Z1.out _).mono ?_; rintro e w' ⟨rfl, rfl⟩) | (go_at_call 22; refine (Z2.out _).mono ?_; rintro e w' ⟨rfl, rfl⟩) | (go_at_call 23; refine (Z3.out _).mono ?_; rintro e w' ⟨rfl, rfl⟩))
    go_ret
    exact ⟨ret_int HR.out.symm, HW.out⟩
  rw [show szR l3 r.items.length = l3 - r.items.length by unfold szR; rw [if_neg n3]] at z3
  obtain ⟨l4, hl4⟩ : ∃ l, l = l3 - (r.items.length : Int) := ⟨_, rfl⟩
  have g4 : 0 ≤ l4 := by omega
  have HR := Lib.hid (show szR left (r.bulk : Nat) = l4 by unfold szR Request.bulk; rw [if_neg (by omega)]; omega)
  rw [← hl4] at z3
  have Z3 := Lib.hid z3
  clear z1 z2 z3 n1 n2 n3 hl2 hl3 hl4
  go_enter Tryz.func7, Tryz.ntmps7
  go_wp2_with (first | (go_at_call 21; refine (Z1.out _).mono ?_; rintro e w' ⟨rfl, rfl⟩) | (go_at_call 22; refine (Z2.out _).mono ?_; rintro e w' ⟨rfl, rfl⟩) | (go_at_call 23; refine (Z3.out _).mono ?_; rintro e w' ⟨rfl, rfl⟩))
  go_ret
  exact ⟨ret_int HR.out.symm, HW.out⟩
theorem req_eq (r q : Request) : decide (r = q) = (decide (r.way = q.way) && decide (r.pallet = q.pallet) && decide (r.classes = q.classes) && decide (r.pairs = q.pairs) && decide (r.types = q.types) && decide (r.master = q.master) && decide (r.items = q.items)) := by
  obtain ⟨a, b, c, d, e, f, g⟩ := r
  obtain ⟨a', b', c', d', e', f', g'⟩ := q
  rw [Bool.eq_iff_iff]
  simp
  constructor
  · rintro ⟨h1, h2, h3, h4, h5, h6, h7⟩; exact ⟨⟨⟨⟨⟨⟨h1, h2⟩, h3⟩, h4⟩, h5⟩, h6⟩, h7⟩
  · rintro ⟨⟨⟨⟨⟨⟨h1, h2⟩, h3⟩, h4⟩, h5⟩, h6⟩, h7⟩; exact ⟨h1, h2, h3, h4, h5, h6, h7⟩
set_option maxHeartbeats 1000000 in
theorem eqRequest_any (v u : Value) (r q : Request) (w : World) (h : RReq 16777216 w w.heap.size v r) (h2 : RReq 16777216 w w.heap.size u q) :
    Calls Tryz.prog 12 #[v, u] w fun e w' => e = .returned (.bool (decide (r = q))) ∧ Below w.heap.size w w' := by
  obtain ⟨A1, c1, A2, c2, A3, c3, rfl, ⟨H1, H2, H3⟩, _⟩ := h.opn
  obtain ⟨B1, d1, B2, d2, B3, d3, rfl, ⟨K1, K2, K3⟩, _⟩ := h2.opn
  have hq0 := lay_box0 w [.cells #[.int .i64 r.way, .int .i64 r.pallet.w, .int .i64 r.pallet.d, .int .i64 r.pallet.h, .int .i64 r.pallet.gram, .int .i64 r.classes, .slice A1 r.pairs.length c1, .slice A2 r.types.length c2, .int .i64 r.master, .slice A3 r.items.length c3] 37, .cells #[.int .i64 q.way, .int .i64 q.pallet.w, .int .i64 q.pallet.d, .int .i64 q.pallet.h, .int .i64 q.pallet.gram, .int .i64 q.classes, .slice B1 q.pairs.length d1, .slice B2 q.types.length d2, .int .i64 q.master, .slice B3 q.items.length d3] 37] _ _ rfl
  have hq1 := lay_box w [.cells #[.int .i64 r.way, .int .i64 r.pallet.w, .int .i64 r.pallet.d, .int .i64 r.pallet.h, .int .i64 r.pallet.gram, .int .i64 r.classes, .slice A1 r.pairs.length c1, .slice A2 r.types.length c2, .int .i64 r.master, .slice A3 r.items.length c3] 37, .cells #[.int .i64 q.way, .int .i64 q.pallet.w, .int .i64 q.pallet.d, .int .i64 q.pallet.h, .int .i64 q.pallet.gram, .int .i64 q.classes, .slice B1 q.pairs.length d1, .slice B2 q.types.length d2, .int .i64 q.master, .slice B3 q.items.length d3] 37] 1 _ _ rfl
  have HL := Lib.hid (lay_low w [.cells #[.int .i64 r.way, .int .i64 r.pallet.w, .int .i64 r.pallet.d, .int .i64 r.pallet.h, .int .i64 r.pallet.gram, .int .i64 r.classes, .slice A1 r.pairs.length c1, .slice A2 r.types.length c2, .int .i64 r.master, .slice A3 r.items.length c3] 37, .cells #[.int .i64 q.way, .int .i64 q.pallet.w, .int .i64 q.pallet.d, .int .i64 q.pallet.h, .int .i64 q.pallet.gram, .int .i64 q.classes, .slice B1 q.pairs.length d1, .slice B2 q.types.length d2, .int .i64 q.master, .slice B3 q.items.length d3] 37])
  have E1 := extC (lay_le w [.cells #[.int .i64 r.way, .int .i64 r.pallet.w, .int .i64 r.pallet.d, .int .i64 r.pallet.h, .int .i64 r.pallet.gram, .int .i64 r.classes, .slice A1 r.pairs.length c1, .slice A2 r.types.length c2, .int .i64 r.master, .slice A3 r.items.length c3] 37, .cells #[.int .i64 q.way, .int .i64 q.pallet.w, .int .i64 q.pallet.d, .int .i64 q.pallet.h, .int .i64 q.pallet.gram, .int .i64 q.classes, .slice B1 q.pairs.length d1, .slice B2 q.types.length d2, .int .i64 q.master, .slice B3 q.items.length d3] 37]) fun X => eqPallet_any r.pallet q.pallet X.world
  have E2 := extC (lay_le w [.cells #[.int .i64 r.way, .int .i64 r.pallet.w, .int .i64 r.pallet.d, .int .i64 r.pallet.h, .int .i64 r.pallet.gram, .int .i64 r.classes, .slice A1 r.pairs.length c1, .slice A2 r.types.length c2, .int .i64 r.master, .slice A3 r.items.length c3] 37, .cells #[.int .i64 q.way, .int .i64 q.pallet.w, .int .i64 q.pallet.d, .int .i64 q.pallet.h, .int .i64 q.pallet.gram, .int .i64 q.classes, .slice B1 q.pairs.length d1, .slice B2 q.types.length d2, .int .i64 q.master, .slice B3 q.items.length d3] 37]) fun X => eqPairS_any _ _ r.pairs q.pairs X.world (H1.out.next (flat_mono _) (HL.out X)) (K1.out.next (flat_mono _) (HL.out X))
  have E3 := extC (lay_le w [.cells #[.int .i64 r.way, .int .i64 r.pallet.w, .int .i64 r.pallet.d, .int .i64 r.pallet.h, .int .i64 r.pallet.gram, .int .i64 r.classes, .slice A1 r.pairs.length c1, .slice A2 r.types.length c2, .int .i64 r.master, .slice A3 r.items.length c3] 37, .cells #[.int .i64 q.way, .int .i64 q.pallet.w, .int .i64 q.pallet.d, .int .i64 q.pallet.h, .int .i64 q.pallet.gram, .int .i64 q.classes, .slice B1 q.pairs.length d1, .slice B2 q.types.length d2, .int .i64 q.master, .slice B3 q.items.length d3] 37]) fun X => eqTypeS_any _ _ r.types q.types X.world (H2.out.next (flat_mono _) (HL.out X)) (K2.out.next (flat_mono _) (HL.out X))
  have E4 := extC (lay_le w [.cells #[.int .i64 r.way, .int .i64 r.pallet.w, .int .i64 r.pallet.d, .int .i64 r.pallet.h, .int .i64 r.pallet.gram, .int .i64 r.classes, .slice A1 r.pairs.length c1, .slice A2 r.types.length c2, .int .i64 r.master, .slice A3 r.items.length c3] 37, .cells #[.int .i64 q.way, .int .i64 q.pallet.w, .int .i64 q.pallet.d, .int .i64 q.pallet.h, .int .i64 q.pallet.gram, .int .i64 q.classes, .slice B1 q.pairs.length d1, .slice B2 q.types.length d2, .int .i64 q.master, .slice B3 q.items.length d3] 37]) fun X => eqItemS_any _ _ r.items q.items X.world (H3.out.next (flat_mono _) (HL.out X)) (K3.out.next (flat_mono _) (HL.out X))
  have HD := Lib.hid (req_eq r q)
  obtain ⟨b1, hb1⟩ : ∃ zz, decide (r.pallet = q.pallet) = zz := ⟨_, rfl⟩; have HHb1 := Lib.hid hb1; rw [hb1] at E1 HD; clear hb1
  obtain ⟨b2, hb2⟩ : ∃ zz, decide (r.pairs = q.pairs) = zz := ⟨_, rfl⟩; have HHb2 := Lib.hid hb2; rw [hb2] at E2 HD; clear hb2
  obtain ⟨b3, hb3⟩ : ∃ zz, decide (r.types = q.types) = zz := ⟨_, rfl⟩; have HHb3 := Lib.hid hb3; rw [hb3] at E3 HD; clear hb3
  obtain ⟨b4, hb4⟩ : ∃ zz, decide (r.items = q.items) = zz := ⟨_, rfl⟩; have HHb4 := Lib.hid hb4; rw [hb4] at E4 HD; clear hb4
  go_enter Tryz.func12, Tryz.ntmps12
  go_wp2_with (first | (go_at_call 32; (first | refine (E1.out _).mono ?_ | refine (E1.out (Ext.here _ _)).mono ?_); rintro e w' ⟨rfl, Y, rfl⟩) | (go_at_call 33; (first | refine (E2.out _).mono ?_ | refine (E2.out (Ext.here _ _)).mono ?_); rintro e w' ⟨rfl, Y, rfl⟩) | (go_at_call 34; (first | refine (E3.out _).mono ?_ | refine (E3.out (Ext.here _ _)).mono ?_); rintro e w' ⟨rfl, Y, rfl⟩) | (go_at_call 35; (first | refine (E4.out _).mono ?_ | refine (E4.out (Ext.here _ _)).mono ?_); rintro e w' ⟨rfl, Y, rfl⟩))
  all_goals go_ret
  all_goals go_light
  all_goals (try simp only [Bool.not_eq_true', Bool.not_eq_false'] at *)
  all_goals exact ⟨ret_bool (by rw [HD.out]; simp_all), by first | exact HL.out _ | (repeat' (first | with_reducible exact Below.refl _ _ | with_reducible assumption | with_reducible refine Below.drew ?_ | with_reducible refine Below.alloc ?_ ?_ _ | with_reducible refine Below.setCell ?_ ?_ _ | with_reducible refine below_drewN ?_ _ | (simp; done) | (simp; omega)))⟩
def cntR (r : Request) : Nat := r.pairs.length * 2 + r.types.length * 7 + r.items.length * 7
theorem cntR_le (r : Request) : cntR r ≤ 7 * r.bulk := by unfold cntR Request.bulk; omega
def mkR (k : Int) (r : Request) : Request := { r with pairs := mkS 2 mkPair k r.pairs.length, types := mkS 7 mkType (k + ((r.pairs.length * 2 : Nat) : Int)) r.types.length, items := mkS 7 mkItem (k + ((r.pairs.length * 2 : Nat) : Int) + ((r.types.length * 7 : Nat) : Int)) r.items.length }
theorem mkR_bulk (k : Int) (r : Request) : (mkR k r).bulk = r.bulk := by unfold mkR Request.bulk; simp only [mkS_length]
set_option maxRecDepth 100000 in
set_option maxHeartbeats 1000000 in
theorem markRequest_any (v : Value) (r : Request) (fp : List Nat) (k : Int) (base : Nat) (w : World) (h : OReq w base v r fp) (hb : r.bulk ≤ 2097152) (h0 : 0 ≤ k) (h1 : k ≤ 1073741824) :
    Calls Tryz.prog 13 #[v, .int .i64 k] w fun e w' => e = .returned (.int .i64 (k + (cntR r : Nat))) ∧ OReq w' base v (mkR k r) fp ∧ Tch fp w w' := by
  have hlt := h.lt
  obtain ⟨vp, vt, vi, f1, f2, f3, rfl, o1, o2, o3, rfl, hn⟩ := h
  obtain ⟨A1, c1, rfl, _⟩ := o1.form
  obtain ⟨A2, c2, rfl, _⟩ := o2.form
  obtain ⟨A3, c3, rfl, _⟩ := o3.form
  have hbl : r.pairs.length ≤ 2097152 ∧ r.types.length ≤ 2097152 ∧ r.items.length ≤ 2097152 := by unfold Request.bulk at hb; omega
  obtain ⟨hb1, hb2, hb3⟩ := hbl
  have hW : Below w.heap.size w (w.alloc (.cells #[.int .i64 r.way, .int .i64 r.pallet.w, .int .i64 r.pallet.d, .int .i64 r.pallet.h, .int .i64 r.pallet.gram, .int .i64 r.classes, .slice A1 r.pairs.length c1, .slice A2 r.types.length c2, .int .i64 r.master, .slice A3 r.items.length c3] 37)) := (by repeat' (first | with_reducible exact Below.refl _ _ | with_reducible assumption | with_reducible refine Below.drew ?_ | with_reducible refine Below.alloc ?_ ?_ _ | with_reducible refine Below.setCell ?_ ?_ _ | with_reducible refine below_drewN ?_ _ | (simp; done) | (simp; omega)))
  have hn2 := hn
  rw [List.nodup_append, List.nodup_append] at hn2
  obtain ⟨_, ⟨_, _, d23⟩, d1⟩ := hn2
  have HD1 := Lib.hid (fun b (h1 : b ∈ f1) (h2 : b ∈ f2 ++ f3) => d1 b h1 b h2 rfl)
  have HD2 := Lib.hid (fun b (h1 : b ∈ f2) (h2 : b ∈ f3) => d23 b h1 b h2 rfl)
  have HN := Lib.hid hn
  have L1 := Lib.hid o1.lt
  have L2 := Lib.hid o2.lt
  have L3 := Lib.hid o3.lt
  have P1 := Lib.hid (o1.next hW)
  have P2 := Lib.hid (o2.next hW)
  have P3 := Lib.hid (o3.next hW)
  have HX := Lib.hid (heap_alloc_new w (.cells #[.int .i64 r.way, .int .i64 r.pallet.w, .int .i64 r.pallet.d, .int .i64 r.pallet.h, .int .i64 r.pallet.gram, .int .i64 r.classes, .slice A1 r.pairs.length c1, .slice A2 r.types.length c2, .int .i64 r.master, .slice A3 r.items.length c3] 37))
  have HT0 := Lib.hid (Tch.of hW (f1 ++ (f2 ++ f3)))
  clear hn d23 d1 o1 o2 o3 hW hlt
  go_enter Tryz.func13, Tryz.ntmps13
  go_wp2_with fail
  refine (markPairS_any _ r.pairs k base _ P1.out.1 (by omega) h0 (by omega)).mono ?_
  rintro e w2 ⟨rfl, q1, t1⟩
  rw [← P1.out.2] at t1
  have Q1 := Lib.hid (show OF Pair.cells 81 2 w2 base _ (mkS 2 mkPair k r.pairs.length) f1 from ⟨by rw [mkS_length]; exact q1, P1.out.2⟩)
  have P2 := Lib.hid (P2.out.tch t1 (fun b h2 h1 => HD1.out b h1 (by simp [h2])))
  have P3 := Lib.hid (P3.out.tch t1 (fun b h2 h1 => HD1.out b h1 (by simp [h2])))
  have HX := Lib.hid ((t1.block w.heap.size (by simp) (fun hm => by have := (L1.out _ hm).2; omega)).trans HX.out)
  have HT := Lib.hid (HT0.out.trans (t1.sub (fun k hk => by simp [hk])))
  have hx := fun j => cell_of_row _ _ j _ _ (0, 0) HX.out
  have hlt2 := lt_of_block HX.out
  clear q1 t1
  go_wp2_with fail
  refine (markTypeS_any _ r.types _ base _ P2.out.1 (by omega) (by omega) (by omega)).mono ?_
  rintro e w3 ⟨rfl, q2, t2⟩
  rw [← P2.out.2] at t2
  have Q2 := Lib.hid (show OF GType.cells 67 7 w3 base _ (mkS 7 mkType (k + ((r.pairs.length * 2 : Nat) : Int)) r.types.length) f2 from ⟨by rw [mkS_length]; exact q2, P2.out.2⟩)
  have Q1 := Lib.hid (Q1.out.tch t2 (fun b h1 h2 => HD1.out b h1 (by simp [h2])))
  have P3 := Lib.hid (P3.out.tch t2 (fun b h3 h2 => HD2.out b h2 h3))
  have HX := Lib.hid ((t2.block w.heap.size hlt2 (fun hm => by have := (L2.out _ hm).2; omega)).trans HX.out)
  have HT := Lib.hid (HT.out.trans (t2.sub (fun k hk => by simp [hk])))
  clear hx hlt2
  have hx := fun j => cell_of_row _ _ j _ _ (0, 0) HX.out
  have hlt2 := lt_of_block HX.out
  clear q2 t2
  go_wp2_with fail
  refine (markItemS_any _ r.items _ base _ P3.out.1 (by omega) (by omega) (by omega)).mono ?_
  rintro e w4 ⟨rfl, q3, t3⟩
  rw [← P3.out.2] at t3
  have Q3 := Lib.hid (show OF Item.cells 41 7 w4 base _ (mkS 7 mkItem (k + ((r.pairs.length * 2 : Nat) : Int) + ((r.types.length * 7 : Nat) : Int)) r.items.length) f3 from ⟨by rw [mkS_length]; exact q3, P3.out.2⟩)
  have Q1 := Lib.hid (Q1.out.tch t3 (fun b h1 h2 => HD1.out b h1 (by simp [h2])))
  have Q2 := Lib.hid (Q2.out.tch t3 (fun b h2 h3 => HD2.out b h2 h3))
  have HT := Lib.hid (HT.out.trans (t3.sub (fun k hk => by simp [hk])))
  clear hx hlt2 q3 t3
  go_wp2
  go_ret
  refine ⟨ret_int (by unfold cntR; omega), ⟨_, _, _, f1, f2, f3, ?_, Q1.out, Q2.out, Q3.out, rfl, HN.out⟩, HT.out⟩
  unfold mkR Request.row
  simp only [mkS_length]
set_option maxHeartbeats 1000000 in
theorem heldRequest_any (v : Value) (r : Request) (k : Int) (w : World) (h : RReq 16777216 w w.heap.size v (mkR k r)) (hb : r.bulk ≤ 2097152) (h0 : 0 ≤ k) (h1 : k ≤ 1073741824) :
    Calls Tryz.prog 14 #[v, .int .i64 k] w fun e w' => e = .returned (.int .i64 (k + (cntR r : Nat))) ∧ Below w.heap.size w w' := by
  have hbl : r.pairs.length ≤ 2097152 ∧ r.types.length ≤ 2097152 ∧ r.items.length ≤ 2097152 := by unfold Request.bulk at hb; omega
  obtain ⟨hb1, hb2, hb3⟩ := hbl
  obtain ⟨vp, vt, vi, rfl, r1, r2, r3⟩ := h
  have hW : Below w.heap.size w (w.alloc (.cells ((mkR k r).row vp vt vi) 37)) := (by repeat' (first | with_reducible exact Below.refl _ _ | with_reducible assumption | with_reducible refine Below.drew ?_ | with_reducible refine Below.alloc ?_ ?_ _ | with_reducible refine Below.setCell ?_ ?_ _ | with_reducible refine below_drewN ?_ _ | (simp; done) | (simp; omega)))
  have HW := Lib.hid hW
  have Z1 := Lib.hid (heldPairS_any vp r.pairs.length k _ (r1.next (flat_mono _) hW) h0 (by omega))
  have Z2 := Lib.hid (heldTypeS_any vt r.types.length (k + ((r.pairs.length * 2 : Nat) : Int)) _ (r2.next (flat_mono _) hW) (by omega) (by omega))
  have Z3 := Lib.hid (heldItemS_any vi r.items.length (k + ((r.pairs.length * 2 : Nat) : Int) + ((r.types.length * 7 : Nat) : Int)) _ (r3.next (flat_mono _) hW) (by omega) (by omega))
  clear hW r1 r2 r3
  go_enter Tryz.func14, Tryz.ntmps14
  go_wp2_with fail
  refine Z1.out.mono ?_
  rintro e w' ⟨rfl, rfl⟩
  go_wp2_with fail
  refine Z2.out.mono ?_
  rintro e w' ⟨rfl, rfl⟩
  go_wp2_with fail
  refine Z3.out.mono ?_
  rintro e w' ⟨rfl, rfl⟩
  go_wp2
  go_ret
  exact ⟨ret_int (by unfold cntR; omega), HW.out⟩
section
variable {H : Type} {enc : TypeId × Value → H} {P : Program} {w : World} {held : Bool}
/-- a struct, field by field -/
theorem trod_parts {e : TypeId} {fs : Array Field} {fuel : Nat} {cs : List Value} {x : DataW H × List MemPlace} (he : P.underlying e = some (.struct fs)) (h : DataW.trod enc P w 0 (fun _ => true) held fuel e cs = some x) :
    cs.length = P.cellsOf e ∧ ∀ (j : Nat) (f : Field), fs[j]? = some f → ∃ (n : Nat) (y : DataW H × List MemPlace), (∀ p ∈ y.2, p ∈ x.2) ∧ DataW.trod enc P w 0 (fun _ => true) held n f.type ((cs.drop f.offset).take (P.cellsOf f.type)) = some y := by
  obtain ⟨ys, n', hn', hy, hlen, hyl, hf⟩ := DataW.trod_struct he h
  refine ⟨hlen, fun j f hj => ?_⟩
  have hjl : j < fs.size := (Array.getElem?_eq_some_iff.1 hj).1
  have hys : ys[j]? = some (ys[j]'(by omega)) := List.getElem?_eq_getElem (by omega)
  refine ⟨n', _, fun p hp => ?_, (hf j f hj).trans hys⟩
  rw [hy]
  exact List.mem_flatMap.2 ⟨_, List.getElem_mem _, hp⟩
end
theorem tells_Pallet {H : Type} {enc : TypeId × Value → H} {w : World} {B : Nat} : Tells enc Tryz.prog w true 23 B 4 (flat Pallet.cells) := fun n cs y h _ => by
  obtain ⟨ns, hl, rfl⟩ := trod_ints Tryz.underlying23 (by kernel_rfl) (by kernel_rfl) Tryz.underlying3 (fun j f hj => by
    have hj' := (Array.getElem?_eq_some_iff.1 hj).1
    match j, hj' with
    | 0, _ => simp at hj; rw [← hj]
    | 1, _ => simp at hj; rw [← hj]
    | 2, _ => simp at hj; rw [← hj]
    | 3, _ => simp at hj; rw [← hj]
    | j + 4, h => exact absurd h (by simp)) h
  match ns, hl with
  | [a0, a1, a2, a3], _ => exact ⟨⟨a0, a1, a2, a3⟩, rfl, rfl⟩
theorem read_Request {H : Type} {enc : TypeId × Value → H} {w : World} {b0 : Nat} {v : Value} {d : DataW H} {ps : List MemPlace} (hv : Value.okWide Tryz.prog w .any b0 28 v) (h : DataW.Trod enc Tryz.prog w 0 (fun _ => true) true 28 v d ps) (hlt : ∀ p ∈ ps, p.block < w.heap.size) :
    ∃ r, RReq 9223372036854775807 w w.heap.size v r := by
  obtain ⟨cs, rfl, hsz⟩ := okWide_struct Tryz.underlying28 hv
  obtain ⟨n, hn⟩ := h
  obtain ⟨hl, hf⟩ := trod_parts Tryz.underlying28 hn
  rw [show Tryz.prog.cellsOf 28 = 10 by kernel_rfl] at hl
  obtain ⟨l⟩ := cs
  simp only [Value.cells] at hl hf
  match l, hl with
  | [x0, x1, x2, x3, x4, x5, x6, x7, x8, x9], _ =>
    have ci : Tryz.prog.cellsOf 3 = 1 := by kernel_rfl
    have cp : Tryz.prog.cellsOf 23 = 4 := by kernel_rfl
    have c6 : Tryz.prog.cellsOf 24 = 1 := by kernel_rfl
    have c7 : Tryz.prog.cellsOf 25 = 1 := by kernel_rfl
    have c9 : Tryz.prog.cellsOf 26 = 1 := by kernel_rfl
    obtain ⟨n0, y0, s0, t0⟩ := hf 0 _ rfl
    obtain ⟨n1, y1, s1, t1⟩ := hf 1 _ rfl
    obtain ⟨n2, y2, s2, t2⟩ := hf 2 _ rfl
    obtain ⟨n3, y3, s3, t3⟩ := hf 3 _ rfl
    obtain ⟨n4, y4, s4, t4⟩ := hf 4 _ rfl
    obtain ⟨n5, y5, s5, t5⟩ := hf 5 _ rfl
    obtain ⟨n6, y6, s6, t6⟩ := hf 6 _ rfl
    simp [ci] at t0 t2 t5
    simp [cp] at t1
    simp [c6] at t3
    simp [c7] at t4
    simp [c9] at t6
    obtain ⟨a0, e0, _⟩ := DataW.trod_int Tryz.underlying3 t0
    obtain ⟨pl, hpl, e1⟩ := tells_Pallet (B := w.heap.size) n1 _ y1 t1 (fun p hp => hlt p (s1 p hp))
    obtain ⟨a2, e2, _⟩ := DataW.trod_int Tryz.underlying3 t2
    obtain ⟨v3, xs3, e3, hr3⟩ := tells_slice Tryz.underlying24 (by kernel_rfl) (by omega) tells_Pair t3 (fun p hp => hlt p (s3 p hp))
    obtain ⟨v4, xs4, e4, hr4⟩ := tells_slice Tryz.underlying25 (by kernel_rfl) (by omega) tells_Type t4 (fun p hp => hlt p (s4 p hp))
    obtain ⟨a5, e5, _⟩ := DataW.trod_int Tryz.underlying3 t5
    obtain ⟨v6, xs6, e6, hr6⟩ := tells_slice Tryz.underlying26 (by kernel_rfl) (by omega) tells_Item t6 (fun p hp => hlt p (s6 p hp))
    simp [flat, Pallet.cells] at e0 e1 e2 e3 e4 e5 e6
    obtain ⟨g1, g2, g3, g4⟩ := e1
    subst e0 g1 g2 g3 g4 e2 e3 e4 e5 e6
    exact ⟨⟨a0, pl, a2, xs3, xs4, a5, xs6⟩, _, _, _, rfl, hr3, hr4, hr6⟩
end Go.Proofs.YteamlfcfillbjaaGreat
