/-
  The walks over copies of orders, both sides.
-/
import Derived.Test.YteamlfcfillbjaaGreatRr
import Derived.Test.YteamlfcfillbjaaGreatCf
namespace Go.Proofs.YteamlfcfillbjaaGreat
set_option linter.unusedVariables false
set_option linter.unusedSimpArgs false
set_option maxRecDepth 100000
open Go.RowKit
/-- the call hands back an order of its own -/
def MReq (w : World) (r : Request) (e : Ending) (w' : World) : Prop := ∃ v' fp, e = .returned v' ∧ OReq w' w.heap.size v' r fp ∧ Below w.heap.size w w'
theorem MReq.mk {w w' : World} {B : Nat} {v : Value} {r : Request} {fp : List Nat} (ho : OReq w' B v r fp) (hB : w.heap.size ≤ B) (hb : Below w.heap.size w w') : MReq w r (.returned v) w' := ⟨v, fp, rfl, ho.base hB, hb⟩
/-- an order of the call's own and a word whether -/
def MReqB (w : World) (r : Request) (b : Bool) (e : Ending) (w' : World) : Prop := ∃ v' fp, e = .returned (.tuple #[v', .bool b]) ∧ OReq w' w.heap.size v' r fp ∧ Below w.heap.size w w'
/-- three lists made one behind the other, their heads in a box: an order of the call's own -/
theorem oreq_of {w wf : World} {a b c : Nat} {r : Request} {B1 B2 B3 : Option Addr} {d1 d2 d3 : Nat} (h1 : wf.ownsRow a 81 2 (.slice B1 r.pairs.length d1) r.pairs.length (r.pairs.flatMap Pair.cells)) (h2 : wf.ownsRow b 67 7 (.slice B2 r.types.length d2) r.types.length (r.types.flatMap GType.cells)) (h3 : wf.ownsRow c 41 7 (.slice B3 r.items.length d3) r.items.length (r.items.flatMap Item.cells))
    (l1 : ∀ k, Value.ownBlock (.slice B1 r.pairs.length d1) = some k → k < b) (l2 : ∀ k, Value.ownBlock (.slice B2 r.types.length d2) = some k → k < c) (ha : w.heap.size ≤ a) (hab : a ≤ b) (hbc : b ≤ c) : ∃ fp, OReq wf w.heap.size (.agg #[.int .i64 r.way, .int .i64 r.pallet.w, .int .i64 r.pallet.d, .int .i64 r.pallet.h, .int .i64 r.pallet.gram, .int .i64 r.classes, .slice B1 r.pairs.length d1, .slice B2 r.types.length d2, .int .i64 r.master, .slice B3 r.items.length d3]) r fp :=
  ⟨_, _, _, _, _, _, _, rfl, (OF.mk h1).base ha, (OF.mk h2).base (by omega), (OF.mk h3).base (by omega), rfl, nodup3 (OF.mk h1).nodup (OF.mk h2).nodup (OF.mk h3).nodup (fun k hk => l1 k (ownBlock_mem hk)) (fun k hk => ⟨((OF.mk h2).lt k hk).1, l2 k (ownBlock_mem hk)⟩) (fun k hk => ((OF.mk h3).lt k hk).1) hbc⟩
set_option maxRecDepth 100000 in
set_option maxHeartbeats 1000000 in
theorem cloneRequest_any (v : Value) (r : Request) (w : World) (h : RReq 16777216 w w.heap.size v r) : Calls Tryz.prog 30 #[v] w (MReq w r) := by
  obtain ⟨A1, c1, A2, c2, A3, c3, rfl, ⟨H1, H2, H3⟩, _⟩ := h.opn
  obtain ⟨W0, hW0⟩ : ∃ W, W = lay w [.cells #[.int .i64 r.way, .int .i64 r.pallet.w, .int .i64 r.pallet.d, .int .i64 r.pallet.h, .int .i64 r.pallet.gram, .int .i64 r.classes, .slice A1 r.pairs.length c1, .slice A2 r.types.length c2, .int .i64 r.master, .slice A3 r.items.length c3] 37, .cells #[.int .i64 0, .int .i64 0, .int .i64 0, .int .i64 0, .int .i64 0, .int .i64 0, .slice none 0 0, .slice none 0 0, .int .i64 0, .slice none 0 0] 37] := ⟨_, rfl⟩
  have hx0 : W0.heap[w.heap.size]? = some (.cells #[.int .i64 r.way, .int .i64 r.pallet.w, .int .i64 r.pallet.d, .int .i64 r.pallet.h, .int .i64 r.pallet.gram, .int .i64 r.classes, .slice A1 r.pairs.length c1, .slice A2 r.types.length c2, .int .i64 r.master, .slice A3 r.items.length c3] 37 (0, 0)) := by rw [hW0]; exact lay_at _ w 0 _ rfl
  have hx1 : W0.heap[w.heap.size + 1]? = some (.cells #[.int .i64 0, .int .i64 0, .int .i64 0, .int .i64 0, .int .i64 0, .int .i64 0, .slice none 0 0, .slice none 0 0, .int .i64 0, .slice none 0 0] 37 (0, 0)) := by rw [hW0]; exact lay_at _ w 1 _ rfl
  have hlow : Below w.heap.size w W0 := by rw [hW0]; exact lay_below _ _
  have hsz : W0.heap.size = w.heap.size + 2 := by rw [hW0]; exact lay_heap _ _
  have HX0 := Lib.hid hx0
  have HX1 := Lib.hid hx1
  have HLW := Lib.hid hlow
  have HSZ := Lib.hid hsz
  have HW0 := Lib.hid hW0
  clear h hx0 hx1 hlow hsz hW0
  go_enter Tryz.func30, Tryz.ntmps30
  go_wp2_with fail
  refine (clonePair_any _ r.pairs _ (H1.out.next (flat_mono _) (by have := HLW.out; rw [HW0.out] at this; exact this))).mono ?_
  rintro e w4 ⟨u1, rfl, ho1, hb4⟩
  obtain ⟨B1, d1, rfl, _⟩ := own_form2 ho1
  have hb4' : Below W0.heap.size W0 w4 := by rw [HW0.out]; exact hb4
  have a4 := (AtB.here (B := w.heap.size + 2) HX0.out).next hb4' (Nat.le_of_eq HSZ.out.symm)
  have A4' := Lib.hid a4
  have HO1 := Lib.hid (own_base ho1 (B' := w.heap.size + 2) (by simp))
  have k1 := a4.cells
  have k2 := a4.free
  have k4 := a4.lt
  clear a4 hb4 hb4' ho1
  go_wp2_with fail
  have a5 : AtB (w.heap.size + 2) W0 w.heap.size 37 #[.int .i64 r.way, .int .i64 r.pallet.w, .int .i64 r.pallet.d, .int .i64 r.pallet.h, .int .i64 r.pallet.gram, .int .i64 r.classes, .slice B1 r.pairs.length d1, .slice A2 r.types.length c2, .int .i64 r.master, .slice A3 r.items.length c3] _ := A4'.out.store 6 (.slice B1 r.pairs.length d1)
  refine (cloneType_any _ r.types _ (H2.out.next (flat_mono _) (a5.low HLW.out (by omega) (by omega)))).mono ?_
  rintro e w6 ⟨u2, rfl, ho2, hb6⟩
  obtain ⟨B2, d2, rfl, _⟩ := own_form2 ho2
  have a6 := a5.next hb6 (Nat.le_of_eq HSZ.out.symm)
  have hf1 := HO1.out.lt
  have HP1 := Lib.hid (own_block (w' := w6) HO1.out (fun k hk => (hb6.block k (by have := (hf1 k hk).2; simpa [World.setCell] using this)).trans (Below.heap_setCell _ _ _ _ (by have := (hf1 k hk).1; show k ≠ w.heap.size; omega))))
  have HL1 := Lib.hid (fun k (hk : Value.ownBlock (.slice B1 r.pairs.length d1) = some k) => (⟨(hf1 k hk).1, (hf1 k hk).2⟩ : w.heap.size + 2 ≤ k ∧ k < w4.heap.size))
  have HS6 := Lib.hid (show w4.heap.size ≤ w6.heap.size by have := hb6.size; simpa [World.setCell] using this)
  have HO2 := Lib.hid (own_base ho2 (B' := w4.heap.size) (by simp [World.setCell]))
  have A6' := Lib.hid a6
  have HZ4 := Lib.hid (show w.heap.size + 2 ≤ w4.heap.size by have := A4'.out.size; have := HSZ.out; omega)
  clear k1 k2 k4
  have k1 := a6.cells
  have k2 := a6.free
  have k4 := a6.lt
  clear a5 a6 hb6 ho2 hf1
  go_wp2_with fail
  have a7 : AtB (w.heap.size + 2) W0 w.heap.size 37 #[.int .i64 r.way, .int .i64 r.pallet.w, .int .i64 r.pallet.d, .int .i64 r.pallet.h, .int .i64 r.pallet.gram, .int .i64 r.classes, .slice B1 r.pairs.length d1, .slice B2 r.types.length d2, .int .i64 r.master, .slice A3 r.items.length c3] _ := A6'.out.store 7 (.slice B2 r.types.length d2)
  refine (cloneItem_any _ r.items _ (H3.out.next (flat_mono _) (a7.low HLW.out (by omega) (by omega)))).mono ?_
  rintro e w8 ⟨u3, rfl, ho3, hb8⟩
  obtain ⟨B3, d3, rfl, _⟩ := own_form2 ho3
  have a8 := a7.next hb8 (Nat.le_of_eq HSZ.out.symm)
  have hf2 := HO2.out.lt
  have hne : ∀ k, w.heap.size + 2 ≤ k → k < w6.heap.size → w8.heap[k]? = w6.heap[k]? := fun k h1 h2 => (hb8.block k (by simpa [World.setCell] using h2)).trans (Below.heap_setCell _ _ _ _ (by show k ≠ w.heap.size; omega))
  have HQ1 := Lib.hid (own_block (w' := w8) HP1.out (fun k hk => hne k (HL1.out k hk).1 (Nat.lt_of_lt_of_le (HL1.out k hk).2 HS6.out)))
  have HQ2 := Lib.hid (own_block (w' := w8) HO2.out (fun k hk => hne k (Nat.le_trans HZ4.out (hf2 k hk).1) (hf2 k hk).2))
  have HL2 := Lib.hid (fun k (hk : Value.ownBlock (.slice B2 r.types.length d2) = some k) => (⟨(hf2 k hk).1, (hf2 k hk).2⟩ : w4.heap.size ≤ k ∧ k < w6.heap.size))
  have HQ3 := Lib.hid (own_base ho3 (B' := w6.heap.size) (by simp [World.setCell]))
  have A8' := Lib.hid a8
  clear k1 k2 k4 hne
  have k1 := a8.cells
  have k2 := a8.free
  have k4 := a8.lt
  have m1 := a8.oldc (b := w.heap.size + 1) (by omega) (by omega) HX1.out
  have m2 := a8.oldf (b := w.heap.size + 1) (by omega) (by omega) HX1.out
  clear a7 a8 hb8 ho3 hf2
  go_wp2
  refine bodyPost_ret (v := .agg #[.int .i64 r.way, .int .i64 r.pallet.w, .int .i64 r.pallet.d, .int .i64 r.pallet.h, .int .i64 r.pallet.gram, .int .i64 r.classes, .slice B1 r.pairs.length d1, .slice B2 r.types.length d2, .int .i64 r.master, .slice B3 r.items.length d3]) (by simp [results, Tryz.results30, go_sem, m1, m2]) rfl ?_
  have hk : ∀ b, b ≠ w.heap.size → b ≠ w.heap.size + 1 → (setW (w8.setCell ⟨w.heap.size, 9, none⟩ (.slice B3 r.items.length d3)) (w.heap.size + 1) 0 [.int .i64 r.way, .int .i64 r.pallet.w, .int .i64 r.pallet.d, .int .i64 r.pallet.h, .int .i64 r.pallet.gram, .int .i64 r.classes, .slice B1 r.pairs.length d1, .slice B2 r.types.length d2, .int .i64 r.master, .slice B3 r.items.length d3]).heap[b]? = w8.heap[b]? := fun b h1 h2 => (heap_setW h2 _ _ 0).trans (Below.heap_setCell _ _ _ _ h1)
  change MReq w r _ (setW (w8.setCell ⟨w.heap.size, 9, none⟩ (.slice B3 r.items.length d3)) (w.heap.size + 1) 0 [.int .i64 r.way, .int .i64 r.pallet.w, .int .i64 r.pallet.d, .int .i64 r.pallet.h, .int .i64 r.pallet.gram, .int .i64 r.classes, .slice B1 r.pairs.length d1, .slice B2 r.types.length d2, .int .i64 r.master, .slice B3 r.items.length d3])
  have l3 := HQ3.out.lt
  have hz4 := HZ4.out
  have hs6 := HS6.out
  obtain ⟨fp, ho⟩ := oreq_of (w := w) (own_block HQ1.out (fun k h => hk k (by have := HL1.out k h; omega) (by have := HL1.out k h; omega))) (own_block HQ2.out (fun k h => hk k (by have := HL2.out k h; omega) (by have := HL2.out k h; omega))) (own_block HQ3.out (fun k h => hk k (by have := l3 k h; omega) (by have := l3 k h; omega))) (fun k h => (HL1.out k h).2) (fun k h => (HL2.out k h).2) (by omega) hz4 hs6
  exact ⟨_, fp, rfl, ho, below_setW (((A8'.out.store 9 (.slice B3 r.items.length d3)).low HLW.out (by omega) (by omega))) (by omega) _ _⟩
set_option maxRecDepth 100000 in
set_option maxHeartbeats 1000000 in
theorem l2Copy_any (v : Value) (r : Request) (w : World) (h : RReq 16777216 w w.heap.size v r) : Calls Tryz.prog 24 #[v] w (MReq w r) := by
  obtain ⟨A1, c1, A2, c2, A3, c3, rfl, ⟨H1, H2, H3⟩, hl1, hl2, hl3, _⟩ := h.opn
  obtain ⟨W0, hW0⟩ : ∃ W, W = lay w [.cells #[.int .i64 r.way, .int .i64 r.pallet.w, .int .i64 r.pallet.d, .int .i64 r.pallet.h, .int .i64 r.pallet.gram, .int .i64 r.classes, .slice A1 r.pairs.length c1, .slice A2 r.types.length c2, .int .i64 r.master, .slice A3 r.items.length c3] 37, .cells #[.int .i64 0, .int .i64 0, .int .i64 0, .int .i64 0, .int .i64 0, .int .i64 0, .slice none 0 0, .slice none 0 0, .int .i64 0, .slice none 0 0] 37, .cells #[.int .i64 r.way, .int .i64 r.pallet.w, .int .i64 r.pallet.d, .int .i64 r.pallet.h, .int .i64 r.pallet.gram, .int .i64 r.classes, .slice A1 r.pairs.length c1, .slice A2 r.types.length c2, .int .i64 r.master, .slice A3 r.items.length c3] 37] := ⟨_, rfl⟩
  have hx0 : W0.heap[w.heap.size]? = some (.cells #[.int .i64 r.way, .int .i64 r.pallet.w, .int .i64 r.pallet.d, .int .i64 r.pallet.h, .int .i64 r.pallet.gram, .int .i64 r.classes, .slice A1 r.pairs.length c1, .slice A2 r.types.length c2, .int .i64 r.master, .slice A3 r.items.length c3] 37 (0, 0)) := by rw [hW0]; exact lay_at _ w 0 _ rfl
  have hx1 : W0.heap[w.heap.size + 1]? = some (.cells #[.int .i64 0, .int .i64 0, .int .i64 0, .int .i64 0, .int .i64 0, .int .i64 0, .slice none 0 0, .slice none 0 0, .int .i64 0, .slice none 0 0] 37 (0, 0)) := by rw [hW0]; exact lay_at _ w 1 _ rfl
  have hx2 : W0.heap[w.heap.size + 1 + 1]? = some (.cells #[.int .i64 r.way, .int .i64 r.pallet.w, .int .i64 r.pallet.d, .int .i64 r.pallet.h, .int .i64 r.pallet.gram, .int .i64 r.classes, .slice A1 r.pairs.length c1, .slice A2 r.types.length c2, .int .i64 r.master, .slice A3 r.items.length c3] 37 (0, 0)) := by rw [hW0]; exact lay_at _ w 2 _ rfl
  have hlow : Below w.heap.size w W0 := by rw [hW0]; exact lay_below _ _
  have hsz : W0.heap.size = w.heap.size + 3 := by rw [hW0]; exact lay_heap _ _
  have HX0 := Lib.hid hx0
  have HX1 := Lib.hid hx1
  have HX2 := Lib.hid hx2
  have HLW := Lib.hid hlow
  have HSZ := Lib.hid hsz
  have HW0 := Lib.hid hW0
  have HA1 := Lib.hid (show Below w.heap.size w ((lay w [.cells #[.int .i64 r.way, .int .i64 r.pallet.w, .int .i64 r.pallet.d, .int .i64 r.pallet.h, .int .i64 r.pallet.gram, .int .i64 r.classes, .slice A1 r.pairs.length c1, .slice A2 r.types.length c2, .int .i64 r.master, .slice A3 r.items.length c3] 37, .cells #[.int .i64 0, .int .i64 0, .int .i64 0, .int .i64 0, .int .i64 0, .int .i64 0, .slice none 0 0, .slice none 0 0, .int .i64 0, .slice none 0 0] 37, .cells #[.int .i64 r.way, .int .i64 r.pallet.w, .int .i64 r.pallet.d, .int .i64 r.pallet.h, .int .i64 r.pallet.gram, .int .i64 r.classes, .slice A1 r.pairs.length c1, .slice A2 r.types.length c2, .int .i64 r.master, .slice A3 r.items.length c3] 37]).alloc (.cells #[] 81)) from (lay_below _ _).alloc (by rw [lay_heap]; omega) _)
  have HE1 := Lib.hid (show ((lay w [.cells #[.int .i64 r.way, .int .i64 r.pallet.w, .int .i64 r.pallet.d, .int .i64 r.pallet.h, .int .i64 r.pallet.gram, .int .i64 r.classes, .slice A1 r.pairs.length c1, .slice A2 r.types.length c2, .int .i64 r.master, .slice A3 r.items.length c3] 37, .cells #[.int .i64 0, .int .i64 0, .int .i64 0, .int .i64 0, .int .i64 0, .int .i64 0, .slice none 0 0, .slice none 0 0, .int .i64 0, .slice none 0 0] 37, .cells #[.int .i64 r.way, .int .i64 r.pallet.w, .int .i64 r.pallet.d, .int .i64 r.pallet.h, .int .i64 r.pallet.gram, .int .i64 r.classes, .slice A1 r.pairs.length c1, .slice A2 r.types.length c2, .int .i64 r.master, .slice A3 r.items.length c3] 37]).alloc (.cells #[] 81)).heap[w.heap.size + 1 + 1 + 1]? = some (.cells #[] 81 (0, 0)) by rw [heap_alloc_if, if_pos (by rw [lay_heap]; rfl)])
  clear h hx0 hx1 hx2 hlow hsz hW0
  go_enter Tryz.func24, Tryz.ntmps24
  go_wp2_with (first
    | (at_builtin; refine at_app (.tmp 5) (.tmp 7) 33 rfl ?_; refine appAll_Pair (.tmp 5) (.tmp 7) rfl rfl rfl rfl (H1.out.next (flat_mono _) HA1.out) (own_nil (α := Pair) (base := w.heap.size + 3) (Nat.le_refl _) HE1.out) (by simp; omega) (by simp) ?_
       intro u1 w4 ho1 hb4 hg1 hn1
       rw [List.nil_append] at ho1
       obtain ⟨B1, d1, rfl, _⟩ := own_form2 ho1
       have hb4' : Below W0.heap.size W0 w4 := by rw [HW0.out, lay_heap]; exact ((Below.refl _ _).alloc (by rw [lay_heap]; omega) _).trans hb4
       have a4 := (AtB.here (B := w.heap.size + 3) HX2.out).next hb4' (Nat.le_of_eq HSZ.out.symm)
       have A4' := Lib.hid a4
       have HO1 := Lib.hid ho1
       have k1 := a4.cells
       have k2 := a4.free
       have k3 := a4.oldc (b := w.heap.size) (by omega) (by omega) HX0.out
       have k4 := a4.lt
       have a5 : AtB (w.heap.size + 3) W0 (w.heap.size + 1 + 1) 37 #[.int .i64 r.way, .int .i64 r.pallet.w, .int .i64 r.pallet.d, .int .i64 r.pallet.h, .int .i64 r.pallet.gram, .int .i64 r.classes, .slice B1 r.pairs.length d1, .slice A2 r.types.length c2, .int .i64 r.master, .slice A3 r.items.length c3] _ := a4.store 6 (.slice B1 r.pairs.length d1)
       have A5' := Lib.hid a5
       have k5 : w.heap.size < w4.heap.size := by omega
       have hz5 : (w4.setCell ⟨w.heap.size + 1 + 1, 6, none⟩ (.slice B1 r.pairs.length d1)).heap.size = w4.heap.size := by simp [World.setCell]
       have HE2 := Lib.hid (show ((w4.setCell ⟨w.heap.size + 1 + 1, 6, none⟩ (.slice B1 r.pairs.length d1)).alloc (.cells #[] 67)).heap[w4.heap.size]? = some (.cells #[] 67 (0, 0)) by rw [heap_alloc_if, if_pos hz5.symm])
       have HA2 := Lib.hid (show Below w.heap.size w ((w4.setCell ⟨w.heap.size + 1 + 1, 6, none⟩ (.slice B1 r.pairs.length d1)).alloc (.cells #[] 67)) from (a5.low HLW.out (by omega) (by omega)).alloc (by rw [hz5]; omega) _)
       have HZ4 := Lib.hid (show w.heap.size + 3 ≤ w4.heap.size by have := a4.size; have := HSZ.out; omega)
       have hf1 := ho1.lt
       have HL1 := Lib.hid (fun k (hk : Value.ownBlock (.slice B1 r.pairs.length d1) = some k) => (⟨(hf1 k hk).1, (hf1 k hk).2⟩ : w.heap.size + 3 ≤ k ∧ k < w4.heap.size))
       have HZ5 := Lib.hid hz5
       clear a4 a5 hb4 hb4' ho1 hg1 hn1 hz5 hf1)
    | (at_builtin; refine at_app (.tmp 10) (.tmp 12) 34 rfl ?_; refine appAll_Type (.tmp 10) (.tmp 12) rfl rfl rfl rfl (H2.out.next (flat_mono _) HA2.out) (own_nil (α := GType) (base := w4.heap.size) (Nat.le_refl _) HE2.out) (by simp; omega) (by rw [World.size_alloc, HZ5.out]; omega) ?_
       intro u2 w6 ho2 hb6 hg2 hn2
       rw [List.nil_append] at ho2
       obtain ⟨B2, d2, rfl, _⟩ := own_form2 ho2
       have hb6' : Below (w4.setCell ⟨w.heap.size + 1 + 1, 6, none⟩ (.slice B1 r.pairs.length d1)).heap.size (w4.setCell ⟨w.heap.size + 1 + 1, 6, none⟩ (.slice B1 r.pairs.length d1)) w6 := by rw [HZ5.out]; exact ((Below.refl _ _).alloc (by rw [HZ5.out]; omega) _).trans hb6
       have a6 := A5'.out.next hb6' (Nat.le_of_eq HSZ.out.symm)
       have HO2 := Lib.hid ho2
       have HP1 := Lib.hid (own_block (w' := w6) HO1.out (fun k hk => (hb6'.block k (by rw [HZ5.out]; exact (HL1.out k hk).2)).trans (Below.heap_setCell _ _ _ _ (by have := (HL1.out k hk).1; show k ≠ w.heap.size + 1 + 1; omega))))
       have HS6 := Lib.hid (show w4.heap.size ≤ w6.heap.size by have := hb6'.size; rw [HZ5.out] at this; exact this)
       clear k1 k2 k3 k4 k5
       have k1 := a6.cells
       have k2 := a6.free
       have k3 := a6.oldc (b := w.heap.size) (by omega) (by omega) HX0.out
       have k4 := a6.lt
       have k5 : w.heap.size < w6.heap.size := by omega
       have a7 : AtB (w.heap.size + 3) W0 (w.heap.size + 1 + 1) 37 #[.int .i64 r.way, .int .i64 r.pallet.w, .int .i64 r.pallet.d, .int .i64 r.pallet.h, .int .i64 r.pallet.gram, .int .i64 r.classes, .slice B1 r.pairs.length d1, .slice B2 r.types.length d2, .int .i64 r.master, .slice A3 r.items.length c3] _ := a6.store 7 (.slice B2 r.types.length d2)
       have A7' := Lib.hid a7
       have hz7 : (w6.setCell ⟨w.heap.size + 1 + 1, 7, none⟩ (.slice B2 r.types.length d2)).heap.size = w6.heap.size := by simp [World.setCell]
       have HE3 := Lib.hid (show ((w6.setCell ⟨w.heap.size + 1 + 1, 7, none⟩ (.slice B2 r.types.length d2)).alloc (.cells #[] 41)).heap[w6.heap.size]? = some (.cells #[] 41 (0, 0)) by rw [heap_alloc_if, if_pos hz7.symm])
       have HA3 := Lib.hid (show Below w.heap.size w ((w6.setCell ⟨w.heap.size + 1 + 1, 7, none⟩ (.slice B2 r.types.length d2)).alloc (.cells #[] 41)) from (a7.low HLW.out (by omega) (by omega)).alloc (by rw [hz7]; omega) _)
       have hf2 := ho2.lt
       have HL2 := Lib.hid (fun k (hk : Value.ownBlock (.slice B2 r.types.length d2) = some k) => (⟨(hf2 k hk).1, (hf2 k hk).2⟩ : w4.heap.size ≤ k ∧ k < w6.heap.size))
       have HZ7 := Lib.hid hz7
       clear a6 a7 hb6 hb6' ho2 hg2 hn2 hz7 hf2)
    | (at_builtin; refine at_app (.tmp 15) (.tmp 17) 35 rfl ?_; refine appAll_Item (.tmp 15) (.tmp 17) rfl rfl rfl rfl (H3.out.next (flat_mono _) HA3.out) (own_nil (α := Item) (base := w6.heap.size) (Nat.le_refl _) HE3.out) (by simp; omega) (by rw [World.size_alloc, HZ7.out]; omega) ?_
       intro u3 w8 ho3 hb8 hg3 hn3
       rw [List.nil_append] at ho3
       obtain ⟨B3, d3, rfl, _⟩ := own_form2 ho3
       have hb8' : Below (w6.setCell ⟨w.heap.size + 1 + 1, 7, none⟩ (.slice B2 r.types.length d2)).heap.size (w6.setCell ⟨w.heap.size + 1 + 1, 7, none⟩ (.slice B2 r.types.length d2)) w8 := by rw [HZ7.out]; exact ((Below.refl _ _).alloc (by rw [HZ7.out]; omega) _).trans hb8
       have a8 := A7'.out.next hb8' (Nat.le_of_eq HSZ.out.symm)
       have A8' := Lib.hid a8
       have HQ3 := Lib.hid ho3
       have hne : ∀ k, w.heap.size + 3 ≤ k → k < w6.heap.size → w8.heap[k]? = w6.heap[k]? := fun k h1 h2 => (hb8'.block k (by rw [HZ7.out]; exact h2)).trans (Below.heap_setCell _ _ _ _ (by show k ≠ w.heap.size + 1 + 1; omega))
       have HQ1 := Lib.hid (own_block (w' := w8) HP1.out (fun k hk => hne k (HL1.out k hk).1 (Nat.lt_of_lt_of_le (HL1.out k hk).2 HS6.out)))
       have HQ2 := Lib.hid (own_block (w' := w8) HO2.out (fun k hk => hne k (Nat.le_trans HZ4.out (HL2.out k hk).1) (HL2.out k hk).2))
       clear k1 k2 k3 k4 k5
       have k1 := a8.cells
       have k2 := a8.free
       have k4 := a8.lt
       have m1 := a8.oldc (b := w.heap.size + 1) (by omega) (by omega) HX1.out
       have m2 := a8.oldf (b := w.heap.size + 1) (by omega) (by omega) HX1.out
       clear a8 hb8 hb8' ho3 hg3 hn3 hne))
  refine bodyPost_ret (v := .agg #[.int .i64 r.way, .int .i64 r.pallet.w, .int .i64 r.pallet.d, .int .i64 r.pallet.h, .int .i64 r.pallet.gram, .int .i64 r.classes, .slice B1 r.pairs.length d1, .slice B2 r.types.length d2, .int .i64 r.master, .slice B3 r.items.length d3]) (by simp [results, Tryz.results24, go_sem, m1, m2]) rfl ?_
  have hk : ∀ b, b ≠ w.heap.size + 1 + 1 → b ≠ w.heap.size + 1 → (setW (w8.setCell ⟨w.heap.size + 1 + 1, 9, none⟩ (.slice B3 r.items.length d3)) (w.heap.size + 1) 0 [.int .i64 r.way, .int .i64 r.pallet.w, .int .i64 r.pallet.d, .int .i64 r.pallet.h, .int .i64 r.pallet.gram, .int .i64 r.classes, .slice B1 r.pairs.length d1, .slice B2 r.types.length d2, .int .i64 r.master, .slice B3 r.items.length d3]).heap[b]? = w8.heap[b]? := fun b h1 h2 => (heap_setW h2 _ _ 0).trans (Below.heap_setCell _ _ _ _ h1)
  change MReq w r _ (setW (w8.setCell ⟨w.heap.size + 1 + 1, 9, none⟩ (.slice B3 r.items.length d3)) (w.heap.size + 1) 0 [.int .i64 r.way, .int .i64 r.pallet.w, .int .i64 r.pallet.d, .int .i64 r.pallet.h, .int .i64 r.pallet.gram, .int .i64 r.classes, .slice B1 r.pairs.length d1, .slice B2 r.types.length d2, .int .i64 r.master, .slice B3 r.items.length d3])
  have l3 := HQ3.out.lt
  have hz4 := HZ4.out
  have hs6 := HS6.out
  obtain ⟨fp, ho⟩ := oreq_of (w := w) (own_block HQ1.out (fun k h => hk k (by have := HL1.out k h; omega) (by have := HL1.out k h; omega))) (own_block HQ2.out (fun k h => hk k (by have := HL2.out k h; omega) (by have := HL2.out k h; omega))) (own_block HQ3.out (fun k h => hk k (by have := l3 k h; omega) (by have := l3 k h; omega))) (fun k h => (HL1.out k h).2) (fun k h => (HL2.out k h).2) (by omega) hz4 hs6
  exact ⟨_, fp, rfl, ho, below_setW (((A8'.out.store 9 (.slice B3 r.items.length d3)).low HLW.out (by omega) (by omega))) (by omega) _ _⟩
end Go.Proofs.YteamlfcfillbjaaGreat
