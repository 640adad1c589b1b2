/-
  The walks over WithItem, both sides.
-/
import Derived.Test.YteamlfcfillbjaaGreatRt
namespace Go.Proofs.YteamlfcfillbjaaGreat
set_option linter.unusedVariables false
set_option linter.unusedSimpArgs false
set_option maxRecDepth 100000
open Go.RowKit
def plusItem (r : Request) (x : Item) : Request := { r with items := r.items ++ [x] }
def withItem (r : Request) (x : Item) : Request × Bool := if soundR (plusItem r x) = true then (plusItem r x, true) else (r, false)
theorem nodup_swap3 {f1 f2 f3 f3' : List Nat} {N : Nat} (h : (f1 ++ (f2 ++ f3)).Nodup) (h1 : ∀ k ∈ f1, k < N) (h2 : ∀ k ∈ f2, k < N) (h3 : f3' = f3 ∨ ∃ g, f3' = [g] ∧ N ≤ g) : (f1 ++ (f2 ++ f3')).Nodup := by
  rcases h3 with rfl | ⟨g, rfl, hg⟩
  · exact h
  · rw [List.nodup_append, List.nodup_append] at h ⊢
    refine ⟨h.1, ⟨h.2.1.1, by simp, fun a ha b hb e => ?_⟩, fun a ha b hb e => ?_⟩
    · simp at hb
      have := h2 a ha
      omega
    · have hal := h1 a ha
      rcases List.mem_append.1 hb with hb | hb
      · exact h.2.2 a ha b (List.mem_append_left _ hb) e
      · simp at hb
        omega
set_option maxRecDepth 100000 in
set_option maxHeartbeats 1000000 in
theorem iWithItem_any (v : Value) (r : Request) (x : Item) (w : World) (h : RReq 16777216 w w.heap.size v r) (hbk : r.bulk ≤ 1048576) : Calls Tryz.prog 11 #[v, x.val] w (MReqB w (withItem r x).1 (withItem r x).2) := by
  have HR := Lib.hid h
  obtain ⟨A1, c1, A2, c2, A3, c3, rfl, _⟩ := h.opn
  have hbl : r.pairs.length ≤ 1048576 ∧ r.types.length ≤ 1048576 ∧ r.items.length ≤ 1048576 := by unfold Request.bulk at hbk; omega
  obtain ⟨hb1, hb2, hb3⟩ := hbl
  obtain ⟨W0, hW0⟩ : ∃ W, W = lay w [.cells #[.int .i64 r.way, .int .i64 r.pallet.w, .int .i64 r.pallet.d, .int .i64 r.pallet.h, .int .i64 r.pallet.gram, .int .i64 r.classes, .slice A1 r.pairs.length c1, .slice A2 r.types.length c2, .int .i64 r.master, .slice A3 r.items.length c3] 37, .cells #[.int .i64 x.id, .int .i64 x.w, .int .i64 x.h, .int .i64 x.d, .int .i64 x.gram, .int .i64 x.cls, .int .i64 x.count] 41, .cells #[.int .i64 0, .int .i64 0, .int .i64 0, .int .i64 0, .int .i64 0, .int .i64 0, .slice none 0 0, .slice none 0 0, .int .i64 0, .slice none 0 0] 37] := ⟨_, rfl⟩
  have hx0 : W0.heap[w.heap.size]? = some (.cells #[.int .i64 r.way, .int .i64 r.pallet.w, .int .i64 r.pallet.d, .int .i64 r.pallet.h, .int .i64 r.pallet.gram, .int .i64 r.classes, .slice A1 r.pairs.length c1, .slice A2 r.types.length c2, .int .i64 r.master, .slice A3 r.items.length c3] 37 (0, 0)) := by rw [hW0]; exact lay_at _ w 0 _ rfl
  have hx1 : W0.heap[w.heap.size + 1]? = some (.cells #[.int .i64 x.id, .int .i64 x.w, .int .i64 x.h, .int .i64 x.d, .int .i64 x.gram, .int .i64 x.cls, .int .i64 x.count] 41 (0, 0)) := by rw [hW0]; exact lay_at _ w 1 _ rfl
  have hx2 : W0.heap[w.heap.size + 1 + 1]? = some (.cells #[.int .i64 0, .int .i64 0, .int .i64 0, .int .i64 0, .int .i64 0, .int .i64 0, .slice none 0 0, .slice none 0 0, .int .i64 0, .slice none 0 0] 37 (0, 0)) := by rw [hW0]; exact lay_at _ w 2 _ rfl
  have hlow : Below w.heap.size w W0 := by rw [hW0]; exact lay_below _ _
  have hsz : W0.heap.size = w.heap.size + 3 := by rw [hW0]; exact lay_heap _ _
  have HX0 := Lib.hid hx0
  have HX1 := Lib.hid hx1
  have HX2 := Lib.hid hx2
  have HLW := Lib.hid hlow
  have HSZ := Lib.hid hsz
  have HW0 := Lib.hid hW0
  clear h hx0 hx1 hx2 hlow hsz hW0 hbk
  go_enter Tryz.func11, Tryz.ntmps11
  go_wp2_with fail
  refine (cloneRequest_any _ r _ (HR.out.next (by have := HLW.out; rw [HW0.out] at this; exact this))).mono ?_
  rintro e w4 ⟨v', fp, rfl, ho, hb4⟩
  have hb4' : Below W0.heap.size W0 w4 := by rw [HW0.out]; exact hb4
  have hbase : OReq w4 (w.heap.size + 3) v' r fp := ho.base (by simp)
  obtain ⟨vp, vt, vi, f1, f2, f3, rfl, o1, o2, o3, rfl, hn⟩ := hbase
  obtain ⟨B1, d1, rfl, _⟩ := o1.form
  obtain ⟨B2, d2, rfl, _⟩ := o2.form
  obtain ⟨B3, d3, rfl, _⟩ := o3.form
  have hz4 : w.heap.size + 3 ≤ w4.heap.size := by have := hb4'.size; have := HSZ.out; omega
  have hA : Below w4.heap.size w4 (w4.alloc (.cells #[.int .i64 r.way, .int .i64 r.pallet.w, .int .i64 r.pallet.d, .int .i64 r.pallet.h, .int .i64 r.pallet.gram, .int .i64 r.classes, .slice B1 r.pairs.length d1, .slice B2 r.types.length d2, .int .i64 r.master, .slice B3 r.items.length d3] 37)) := (Below.refl _ _).alloc (Nat.le_refl _) _
  have q0 := (hb4'.block w.heap.size (by have := HSZ.out; omega)).trans HX0.out
  have q1 := (hb4'.block (w.heap.size + 1) (by have := HSZ.out; omega)).trans HX1.out
  have q2 := (hb4'.block (w.heap.size + 1 + 1) (by have := HSZ.out; omega)).trans HX2.out
  have P1 := Lib.hid (o1.next hA)
  have P2 := Lib.hid (o2.next hA)
  have P3 := Lib.hid (o3.next hA)
  have L1 := Lib.hid o1.lt
  have L2 := Lib.hid o2.lt
  have L3 := Lib.hid o3.lt
  have HN := Lib.hid hn
  have HZ4 := Lib.hid hz4
  have Q0 := Lib.hid ((hA.block _ (by omega)).trans q0)
  have Q1 := Lib.hid ((hA.block _ (by omega)).trans q1)
  have Q2 := Lib.hid ((hA.block _ (by omega)).trans q2)
  have QG := Lib.hid (heap_alloc_new w4 (.cells #[.int .i64 r.way, .int .i64 r.pallet.w, .int .i64 r.pallet.d, .int .i64 r.pallet.h, .int .i64 r.pallet.gram, .int .i64 r.classes, .slice B1 r.pairs.length d1, .slice B2 r.types.length d2, .int .i64 r.master, .slice B3 r.items.length d3] 37))
  have HB4 := Lib.hid ((bstep HLW.out hb4').trans (hA.mono (by omega)))
  have k0 := fun j => cell_of_row _ _ j _ _ (0, 0) q1
  have k1 := fun j => cell_of_row _ _ j _ _ (0, 0) q0
  have k3 : w.heap.size + 1 < w4.heap.size := by omega
  have k4 : w.heap.size < w4.heap.size := by omega
  have hl3 : r.items.length < 16777216 := by omega
  have hbs : w.heap.size + 3 ≤ (w4.alloc (.cells #[.int .i64 r.way, .int .i64 r.pallet.w, .int .i64 r.pallet.d, .int .i64 r.pallet.h, .int .i64 r.pallet.gram, .int .i64 r.classes, .slice B1 r.pairs.length d1, .slice B2 r.types.length d2, .int .i64 r.master, .slice B3 r.items.length d3] 37)).heap.size := by simp; omega
  clear hA ho hb4 hb4' hn o1 o2 o3 q0 q1 q2
  go_wp2_with (first
    | (at_builtin; refine at_app (.tmp 10) (.tmp 12) 35 rfl ?_; refine app_Item (.tmp 10) (.tmp 12) rfl rfl _ rfl rfl (by simp) rfl P3.out.1 hl3 hbs ?_
       intro u3 w6 ho3 hb6 hg3 hn3
       obtain ⟨C3, e3, hv3, _⟩ := own_form2 ho3
       rw [show (r.items ++ [x]).length = r.items.length + 1 by simp] at hv3
       subst hv3
       have hg3 : (w4.alloc (.cells #[.int .i64 r.way, .int .i64 r.pallet.w, .int .i64 r.pallet.d, .int .i64 r.pallet.h, .int .i64 r.pallet.gram, .int .i64 r.classes, .slice B1 r.pairs.length d1, .slice B2 r.types.length d2, .int .i64 r.master, .slice B3 r.items.length d3] 37)).grownBy w6 (Value.slice B3 r.items.length d3).ownBlock := hg3
       have hn3 : (Value.slice C3 (r.items.length + 1) e3).ownBlock = (Value.slice B3 r.items.length d3).ownBlock ∨ ∃ g, (Value.slice C3 (r.items.length + 1) e3).ownBlock = some g ∧ (w4.alloc (.cells #[.int .i64 r.way, .int .i64 r.pallet.w, .int .i64 r.pallet.d, .int .i64 r.pallet.h, .int .i64 r.pallet.gram, .int .i64 r.classes, .slice B1 r.pairs.length d1, .slice B2 r.types.length d2, .int .i64 r.master, .slice B3 r.items.length d3] 37)).heap.size ≤ g := hn3
       have ne3 : ∀ b, (b < w.heap.size + 3 ∨ w4.heap.size ≤ b) → ∀ k, Value.ownBlock (.slice B3 r.items.length d3) = some k → k ≠ b := fun b hb k hk => by have := L3.out k (by rw [P3.out.2]; exact mem_ownBlock hk); omega
       have R0 := grown_blk hg3 Q0.out (ne3 _ (by omega))
       have R1 := grown_blk hg3 Q1.out (ne3 _ (by omega))
       have R2 := grown_blk hg3 Q2.out (ne3 _ (by omega))
       have RG := grown_blk hg3 QG.out (ne3 _ (by omega))
       have hnd := HN.out
       rw [List.nodup_append, List.nodup_append] at hnd
       have O1 := P1.out.keep (fun b hb => hg3.block b (by have := (L1.out b hb).2; simp; omega) (fun e => hnd.2.2 b hb b (by simp [P3.out.2, mem_ownBlock e.symm]) rfl))
       have O2 := P2.out.keep (fun b hb => hg3.block b (by have := (L2.out b hb).2; simp; omega) (fun e => hnd.2.1.2.2 b hb b (by simp [P3.out.2, mem_ownBlock e.symm]) rfl))
       have O3 : OF Item.cells 41 7 w6 (w.heap.size + 3) (.slice C3 (r.items.length + 1) e3) (r.items ++ [x]) _ := OF.mk ho3
       have hs6 : w4.heap.size + 1 ≤ w6.heap.size := by have := hb6.size; simpa using this
       have hfr : ∀ k, k ∈ (Value.slice C3 (r.items.length + 1) e3).ownBlock.toList → w.heap.size + 3 ≤ k ∧ k ≠ w4.heap.size := fun k hk => ⟨(O3.lt k hk).1, by
         rcases hn3 with e | ⟨g, e, hg⟩
         · rw [e, ← P3.out.2] at hk; have := (L3.out k hk).2; omega
         · rw [e] at hk; simp at hk hg; omega⟩
       have hset : ∀ k, k ≠ w4.heap.size → (w6.setCell ⟨w4.heap.size, 9, none⟩ (.slice C3 (r.items.length + 1) e3)).heap[k]? = w6.heap[k]? := fun k hk => Below.heap_setCell _ _ _ _ hk
       have OQ : ∃ fp, OReq (w6.setCell ⟨w4.heap.size, 9, none⟩ (.slice C3 (r.items.length + 1) e3)) (w.heap.size + 3) (.agg #[.int .i64 r.way, .int .i64 r.pallet.w, .int .i64 r.pallet.d, .int .i64 r.pallet.h, .int .i64 r.pallet.gram, .int .i64 r.classes, .slice B1 r.pairs.length d1, .slice B2 r.types.length d2, .int .i64 r.master, .slice C3 (r.items.length + 1) e3]) (plusItem r x) fp :=
         ⟨_, _, _, _, _, _, _, rfl, O1.keep (fun k hk => hset k (by have := (L1.out k hk).2; omega)), O2.keep (fun k hk => hset k (by have := (L2.out k hk).2; omega)), O3.keep (fun k hk => hset k (hfr k hk).2), rfl,
           nodup_swap3 (N := w4.heap.size) HN.out (fun k hk => (L1.out k hk).2) (fun k hk => (L2.out k hk).2) (by
             rcases hn3 with e | ⟨g, e, hg⟩
             · exact .inl (by rw [e, P3.out.2])
             · exact .inr ⟨g, by rw [e]; rfl, by simp at hg; omega⟩)⟩
       have HB7 : Below w.heap.size w (w6.setCell ⟨w4.heap.size, 9, none⟩ (.slice C3 (r.items.length + 1) e3)) := (HB4.out.trans (hb6.mono (by omega))).setCell (by show w.heap.size ≤ w4.heap.size; omega) _
       have HOQ := Lib.hid OQ
       have HBB := Lib.hid HB7
       have HS6 := Lib.hid hs6
       have HR0 := Lib.hid R0
       have HR2 := Lib.hid R2
       clear k0 k1
       have k0 := fun j => cell_of_row _ _ j _ _ (0, 0) R0
       have k1 := fun j => cell_of_row _ _ j _ _ (0, 0) RG
       have k2 := fun j => frozen_of_row _ _ j _ _ RG
       have k5 := lt_of_block RG
       clear ho3 hb6 hg3 hn3 ne3 R0 R1 R2 RG hnd O1 O2 O3 hs6 hfr hset OQ HB7))
  obtain ⟨fq, oq⟩ := HOQ.out
  refine (changed_any _ _ r (plusItem r x) _ (HR.out.next HBB.out) (oq.read (by unfold plusItem Request.bulk; simp; omega))).mono ?_
  rintro e w8 ⟨v8, rfl, hb8, hv8⟩
  have hb9 : ∀ k, k < w6.heap.size → w8.heap[k]? = (w6.setCell ⟨w4.heap.size, 9, none⟩ (.slice C3 (r.items.length + 1) e3)).heap[k]? := fun k hk => hb8.block k (by simpa [World.setCell] using hk)
  have R2 := (hb9 (w.heap.size + 1 + 1) (by have := HS6.out; omega)).trans ((Below.heap_setCell _ _ _ _ (by show w.heap.size + 1 + 1 ≠ w4.heap.size; omega)).trans HR2.out)
  have OR : ∃ fp, OReq w8 (w.heap.size + 3) v8 (withItem r x).1 fp := by
    unfold withItem
    rcases hv8 with ⟨hs, rfl⟩ | ⟨hs, fp, ho⟩
    · rw [if_pos hs]; exact ⟨fq, oq.next hb8⟩
    · rw [if_neg (by simp [hs])]; exact ⟨fp, ho.base (by have := HS6.out; simp [World.setCell]; omega)⟩
  have hsn : soundR (plusItem r x) = (withItem r x).2 := by unfold withItem; cases soundR (plusItem r x) <;> rfl
  rw [hsn]
  obtain ⟨q, hq⟩ : ∃ q, (withItem r x).1 = q := ⟨_, rfl⟩
  obtain ⟨bb, hbb⟩ : ∃ b, (withItem r x).2 = b := ⟨_, rfl⟩
  rw [hq] at OR
  obtain ⟨fr, or_⟩ := OR
  obtain ⟨D1, g1, D2, g2, D3, g3, rfl⟩ := or_.form
  have HO := Lib.hid or_
  have HB8 := Lib.hid (bstep HBB.out hb8)
  have HQQ := Lib.hid hq
  have HQB := Lib.hid hbb
  rw [hbb]
  clear k0 k1 k2 k5 hv8 hb8 hb9 or_ hsn hq hbb oq
  have k1 := fun j => cell_of_row _ _ j _ _ (0, 0) R2
  have k2 := fun j => frozen_of_row _ _ j _ _ R2
  have k5 := lt_of_block R2
  clear R2
  go_wp2
  refine bodyPost_ret (v := .tuple #[.agg #[.int .i64 q.way, .int .i64 q.pallet.w, .int .i64 q.pallet.d, .int .i64 q.pallet.h, .int .i64 q.pallet.gram, .int .i64 q.classes, .slice D1 q.pairs.length g1, .slice D2 q.types.length g2, .int .i64 q.master, .slice D3 q.items.length g3], .bool bb]) (by simp [results, Tryz.results11, go_sem, k1, k2]) rfl ?_
  change MReqB w (withItem r x).1 (withItem r x).2 _ (setW w8 (w.heap.size + 1 + 1) 0 [.int .i64 q.way, .int .i64 q.pallet.w, .int .i64 q.pallet.d, .int .i64 q.pallet.h, .int .i64 q.pallet.gram, .int .i64 q.classes, .slice D1 q.pairs.length g1, .slice D2 q.types.length g2, .int .i64 q.master, .slice D3 q.items.length g3])
  rw [HQQ.out, HQB.out]
  exact ⟨_, fr, rfl, (HO.out.base (by omega)).keep (fun k hk => heap_setW (by have := (HO.out.lt k hk).1; omega) _ _ 0), below_setW HB8.out (by omega) _ _⟩
set_option maxRecDepth 100000 in
set_option maxHeartbeats 1000000 in
theorem sWithItem_any (v : Value) (r : Request) (x : Item) (w : World) (h : RReq 16777216 w w.heap.size v r) (hbk : r.bulk ≤ 1048576) : Calls Tryz.prog 8 #[v, x.val] w (MReqB w (withItem r x).1 (withItem r x).2) := by
  have HR := Lib.hid h
  obtain ⟨A1, c1, A2, c2, A3, c3, rfl, _⟩ := h.opn
  have hbl : r.pairs.length ≤ 1048576 ∧ r.types.length ≤ 1048576 ∧ r.items.length ≤ 1048576 := by unfold Request.bulk at hbk; omega
  obtain ⟨hb1, hb2, hb3⟩ := hbl
  obtain ⟨W0, hW0⟩ : ∃ W, W = lay w [.cells #[.int .i64 r.way, .int .i64 r.pallet.w, .int .i64 r.pallet.d, .int .i64 r.pallet.h, .int .i64 r.pallet.gram, .int .i64 r.classes, .slice A1 r.pairs.length c1, .slice A2 r.types.length c2, .int .i64 r.master, .slice A3 r.items.length c3] 37, .cells #[.int .i64 x.id, .int .i64 x.w, .int .i64 x.h, .int .i64 x.d, .int .i64 x.gram, .int .i64 x.cls, .int .i64 x.count] 41, .cells #[.int .i64 0, .int .i64 0, .int .i64 0, .int .i64 0, .int .i64 0, .int .i64 0, .slice none 0 0, .slice none 0 0, .int .i64 0, .slice none 0 0] 37] := ⟨_, rfl⟩
  have hx0 : W0.heap[w.heap.size]? = some (.cells #[.int .i64 r.way, .int .i64 r.pallet.w, .int .i64 r.pallet.d, .int .i64 r.pallet.h, .int .i64 r.pallet.gram, .int .i64 r.classes, .slice A1 r.pairs.length c1, .slice A2 r.types.length c2, .int .i64 r.master, .slice A3 r.items.length c3] 37 (0, 0)) := by rw [hW0]; exact lay_at _ w 0 _ rfl
  have hx1 : W0.heap[w.heap.size + 1]? = some (.cells #[.int .i64 x.id, .int .i64 x.w, .int .i64 x.h, .int .i64 x.d, .int .i64 x.gram, .int .i64 x.cls, .int .i64 x.count] 41 (0, 0)) := by rw [hW0]; exact lay_at _ w 1 _ rfl
  have hx2 : W0.heap[w.heap.size + 1 + 1]? = some (.cells #[.int .i64 0, .int .i64 0, .int .i64 0, .int .i64 0, .int .i64 0, .int .i64 0, .slice none 0 0, .slice none 0 0, .int .i64 0, .slice none 0 0] 37 (0, 0)) := by rw [hW0]; exact lay_at _ w 2 _ rfl
  have hlow : Below w.heap.size w W0 := by rw [hW0]; exact lay_below _ _
  have hsz : W0.heap.size = w.heap.size + 3 := by rw [hW0]; exact lay_heap _ _
  have HX0 := Lib.hid hx0
  have HX1 := Lib.hid hx1
  have HX2 := Lib.hid hx2
  have HLW := Lib.hid hlow
  have HSZ := Lib.hid hsz
  have HW0 := Lib.hid hW0
  clear h hx0 hx1 hx2 hlow hsz hW0 hbk
  go_enter Tryz.func8, Tryz.ntmps8
  go_wp2_with fail
  refine (l2Copy_any _ r _ (HR.out.next (by have := HLW.out; rw [HW0.out] at this; exact this))).mono ?_
  rintro e w4 ⟨v', fp, rfl, ho, hb4⟩
  have hb4' : Below W0.heap.size W0 w4 := by rw [HW0.out]; exact hb4
  have hbase : OReq w4 (w.heap.size + 3) v' r fp := ho.base (by simp)
  obtain ⟨vp, vt, vi, f1, f2, f3, rfl, o1, o2, o3, rfl, hn⟩ := hbase
  obtain ⟨B1, d1, rfl, _⟩ := o1.form
  obtain ⟨B2, d2, rfl, _⟩ := o2.form
  obtain ⟨B3, d3, rfl, _⟩ := o3.form
  have hz4 : w.heap.size + 3 ≤ w4.heap.size := by have := hb4'.size; have := HSZ.out; omega
  have hA : Below w4.heap.size w4 (w4.alloc (.cells #[.int .i64 r.way, .int .i64 r.pallet.w, .int .i64 r.pallet.d, .int .i64 r.pallet.h, .int .i64 r.pallet.gram, .int .i64 r.classes, .slice B1 r.pairs.length d1, .slice B2 r.types.length d2, .int .i64 r.master, .slice B3 r.items.length d3] 37)) := (Below.refl _ _).alloc (Nat.le_refl _) _
  have q0 := (hb4'.block w.heap.size (by have := HSZ.out; omega)).trans HX0.out
  have q1 := (hb4'.block (w.heap.size + 1) (by have := HSZ.out; omega)).trans HX1.out
  have q2 := (hb4'.block (w.heap.size + 1 + 1) (by have := HSZ.out; omega)).trans HX2.out
  have P1 := Lib.hid (o1.next hA)
  have P2 := Lib.hid (o2.next hA)
  have P3 := Lib.hid (o3.next hA)
  have L1 := Lib.hid o1.lt
  have L2 := Lib.hid o2.lt
  have L3 := Lib.hid o3.lt
  have HN := Lib.hid hn
  have HZ4 := Lib.hid hz4
  have Q0 := Lib.hid ((hA.block _ (by omega)).trans q0)
  have Q1 := Lib.hid ((hA.block _ (by omega)).trans q1)
  have Q2 := Lib.hid ((hA.block _ (by omega)).trans q2)
  have QG := Lib.hid (heap_alloc_new w4 (.cells #[.int .i64 r.way, .int .i64 r.pallet.w, .int .i64 r.pallet.d, .int .i64 r.pallet.h, .int .i64 r.pallet.gram, .int .i64 r.classes, .slice B1 r.pairs.length d1, .slice B2 r.types.length d2, .int .i64 r.master, .slice B3 r.items.length d3] 37))
  have HB4 := Lib.hid ((bstep HLW.out hb4').trans (hA.mono (by omega)))
  have k0 := fun j => cell_of_row _ _ j _ _ (0, 0) q1
  have k1 := fun j => cell_of_row _ _ j _ _ (0, 0) q0
  have k3 : w.heap.size + 1 < w4.heap.size := by omega
  have k4 : w.heap.size < w4.heap.size := by omega
  have hl3 : r.items.length < 16777216 := by omega
  have hbs : w.heap.size + 3 ≤ (w4.alloc (.cells #[.int .i64 r.way, .int .i64 r.pallet.w, .int .i64 r.pallet.d, .int .i64 r.pallet.h, .int .i64 r.pallet.gram, .int .i64 r.classes, .slice B1 r.pairs.length d1, .slice B2 r.types.length d2, .int .i64 r.master, .slice B3 r.items.length d3] 37)).heap.size := by simp; omega
  clear hA ho hb4 hb4' hn o1 o2 o3 q0 q1 q2
  go_wp2_with (first
    | (at_builtin; refine at_app (.tmp 10) (.tmp 12) 35 rfl ?_; refine app_Item (.tmp 10) (.tmp 12) rfl rfl _ rfl rfl (by simp) rfl P3.out.1 hl3 hbs ?_
       intro u3 w6 ho3 hb6 hg3 hn3
       obtain ⟨C3, e3, hv3, _⟩ := own_form2 ho3
       rw [show (r.items ++ [x]).length = r.items.length + 1 by simp] at hv3
       subst hv3
       have hg3 : (w4.alloc (.cells #[.int .i64 r.way, .int .i64 r.pallet.w, .int .i64 r.pallet.d, .int .i64 r.pallet.h, .int .i64 r.pallet.gram, .int .i64 r.classes, .slice B1 r.pairs.length d1, .slice B2 r.types.length d2, .int .i64 r.master, .slice B3 r.items.length d3] 37)).grownBy w6 (Value.slice B3 r.items.length d3).ownBlock := hg3
       have hn3 : (Value.slice C3 (r.items.length + 1) e3).ownBlock = (Value.slice B3 r.items.length d3).ownBlock ∨ ∃ g, (Value.slice C3 (r.items.length + 1) e3).ownBlock = some g ∧ (w4.alloc (.cells #[.int .i64 r.way, .int .i64 r.pallet.w, .int .i64 r.pallet.d, .int .i64 r.pallet.h, .int .i64 r.pallet.gram, .int .i64 r.classes, .slice B1 r.pairs.length d1, .slice B2 r.types.length d2, .int .i64 r.master, .slice B3 r.items.length d3] 37)).heap.size ≤ g := hn3
       have ne3 : ∀ b, (b < w.heap.size + 3 ∨ w4.heap.size ≤ b) → ∀ k, Value.ownBlock (.slice B3 r.items.length d3) = some k → k ≠ b := fun b hb k hk => by have := L3.out k (by rw [P3.out.2]; exact mem_ownBlock hk); omega
       have R0 := grown_blk hg3 Q0.out (ne3 _ (by omega))
       have R1 := grown_blk hg3 Q1.out (ne3 _ (by omega))
       have R2 := grown_blk hg3 Q2.out (ne3 _ (by omega))
       have RG := grown_blk hg3 QG.out (ne3 _ (by omega))
       have hnd := HN.out
       rw [List.nodup_append, List.nodup_append] at hnd
       have O1 := P1.out.keep (fun b hb => hg3.block b (by have := (L1.out b hb).2; simp; omega) (fun e => hnd.2.2 b hb b (by simp [P3.out.2, mem_ownBlock e.symm]) rfl))
       have O2 := P2.out.keep (fun b hb => hg3.block b (by have := (L2.out b hb).2; simp; omega) (fun e => hnd.2.1.2.2 b hb b (by simp [P3.out.2, mem_ownBlock e.symm]) rfl))
       have O3 : OF Item.cells 41 7 w6 (w.heap.size + 3) (.slice C3 (r.items.length + 1) e3) (r.items ++ [x]) _ := OF.mk ho3
       have hs6 : w4.heap.size + 1 ≤ w6.heap.size := by have := hb6.size; simpa using this
       have hfr : ∀ k, k ∈ (Value.slice C3 (r.items.length + 1) e3).ownBlock.toList → w.heap.size + 3 ≤ k ∧ k ≠ w4.heap.size := fun k hk => ⟨(O3.lt k hk).1, by
         rcases hn3 with e | ⟨g, e, hg⟩
         · rw [e, ← P3.out.2] at hk; have := (L3.out k hk).2; omega
         · rw [e] at hk; simp at hk hg; omega⟩
       have hset : ∀ k, k ≠ w4.heap.size → (w6.setCell ⟨w4.heap.size, 9, none⟩ (.slice C3 (r.items.length + 1) e3)).heap[k]? = w6.heap[k]? := fun k hk => Below.heap_setCell _ _ _ _ hk
       have OQ : ∃ fp, OReq (w6.setCell ⟨w4.heap.size, 9, none⟩ (.slice C3 (r.items.length + 1) e3)) (w.heap.size + 3) (.agg #[.int .i64 r.way, .int .i64 r.pallet.w, .int .i64 r.pallet.d, .int .i64 r.pallet.h, .int .i64 r.pallet.gram, .int .i64 r.classes, .slice B1 r.pairs.length d1, .slice B2 r.types.length d2, .int .i64 r.master, .slice C3 (r.items.length + 1) e3]) (plusItem r x) fp :=
         ⟨_, _, _, _, _, _, _, rfl, O1.keep (fun k hk => hset k (by have := (L1.out k hk).2; omega)), O2.keep (fun k hk => hset k (by have := (L2.out k hk).2; omega)), O3.keep (fun k hk => hset k (hfr k hk).2), rfl,
           nodup_swap3 (N := w4.heap.size) HN.out (fun k hk => (L1.out k hk).2) (fun k hk => (L2.out k hk).2) (by
             rcases hn3 with e | ⟨g, e, hg⟩
             · exact .inl (by rw [e, P3.out.2])
             · exact .inr ⟨g, by rw [e]; rfl, by simp at hg; omega⟩)⟩
       have HB7 : Below w.heap.size w (w6.setCell ⟨w4.heap.size, 9, none⟩ (.slice C3 (r.items.length + 1) e3)) := (HB4.out.trans (hb6.mono (by omega))).setCell (by show w.heap.size ≤ w4.heap.size; omega) _
       have HOQ := Lib.hid OQ
       have HBB := Lib.hid HB7
       have HS6 := Lib.hid hs6
       have HR0 := Lib.hid R0
       have HR2 := Lib.hid R2
       have HRG := Lib.hid (heap_setCell_same w6 w4.heap.size 9 _ _ (.slice C3 (r.items.length + 1) e3) RG)
       clear k0 k1
       have k0 := fun j => cell_of_row _ _ j _ _ (0, 0) R0
       have k1 := fun j => cell_of_row _ _ j _ _ (0, 0) RG
       have k2 := fun j => frozen_of_row _ _ j _ _ RG
       have k5 := lt_of_block RG
       clear ho3 hb6 hg3 hn3 ne3 R0 R1 R2 RG hnd O1 O2 O3 hs6 hfr hset OQ HB7))
  obtain ⟨fq, oq⟩ := HOQ.out
  have HQR := Lib.hid (oq.read (by unfold plusItem Request.bulk; simp; omega))
  have OQ := Lib.hid oq
  have HSC := Lib.hid (sound_class (plusItem r x))
  clear oq
  refine (sClass_any _ (plusItem r x) _ HQR.out).mono ?_
  rintro e w8 ⟨rfl, hb8⟩
  have hb9 : ∀ k, k < w6.heap.size → w8.heap[k]? = (w6.setCell ⟨w4.heap.size, 9, none⟩ (.slice C3 (r.items.length + 1) e3)).heap[k]? := fun k hk => hb8.block k (by simpa [World.setCell] using hk)
  have hs6 := HS6.out
  have R0 := (hb9 w.heap.size (by omega)).trans ((Below.heap_setCell _ _ _ _ (by show w.heap.size ≠ w4.heap.size; omega)).trans HR0.out)
  have R2 := (hb9 (w.heap.size + 1 + 1) (by omega)).trans ((Below.heap_setCell _ _ _ _ (by show w.heap.size + 1 + 1 ≠ w4.heap.size; omega)).trans HR2.out)
  have RG := (hb9 w4.heap.size (by omega)).trans HRG.out
  have HB8 := Lib.hid (bstep HBB.out hb8)
  have OQ8 := Lib.hid (OQ.out.next hb8)
  have hs8 : w6.heap.size ≤ w8.heap.size := by have := hb8.size; simpa [World.setCell] using this
  obtain ⟨c, hc⟩ : ∃ c, classOf (plusItem r x) = c := ⟨_, rfl⟩
  rw [hc] at HSC ⊢
  clear k0 k1 k2 k5 hb8 hb9 hc hs6
  have k0 := fun j => cell_of_row _ _ j _ _ (0, 0) R0
  have kG := fun j => cell_of_row _ _ j _ _ (0, 0) RG
  have k1 := fun j => cell_of_row _ _ j _ _ (0, 0) R2
  have k2 := fun j => frozen_of_row _ _ j _ _ R2
  have k5 := lt_of_block R2
  have HRX2 := Lib.hid R2
  clear R0 R2 RG
  by_cases hz : c = 0
  · have HS := Lib.hid (show withItem r x = (plusItem r x, true) by unfold withItem; rw [if_pos (by rw [HSC.out]; simpa using hz)])
    subst hz
    go_wp2
    refine bodyPost_ret (v := .tuple #[.agg #[.int .i64 r.way, .int .i64 r.pallet.w, .int .i64 r.pallet.d, .int .i64 r.pallet.h, .int .i64 r.pallet.gram, .int .i64 r.classes, .slice B1 r.pairs.length d1, .slice B2 r.types.length d2, .int .i64 r.master, .slice C3 (r.items.length + 1) e3], .bool true]) (by simp [results, Tryz.results8, go_sem, k1, k2]) rfl ?_
    change MReqB w (withItem r x).1 (withItem r x).2 _ (setW w8 (w.heap.size + 1 + 1) 0 [.int .i64 r.way, .int .i64 r.pallet.w, .int .i64 r.pallet.d, .int .i64 r.pallet.h, .int .i64 r.pallet.gram, .int .i64 r.classes, .slice B1 r.pairs.length d1, .slice B2 r.types.length d2, .int .i64 r.master, .slice C3 (r.items.length + 1) e3])
    rw [HS.out]
    exact ⟨_, fq, rfl, (OQ8.out.base (by omega)).keep (fun k hk => heap_setW (by have := (OQ8.out.lt k hk).1; omega) _ _ 0), below_setW HB8.out (by omega) _ _⟩
  · have HS := Lib.hid (show withItem r x = (r, false) by unfold withItem; rw [if_neg (by rw [HSC.out]; simpa using hz)])
    have hz' : (c != 0) = true := by simpa using hz
    clear hz
    go_wp2_with fail
    refine (l2Copy_any _ r _ (HR.out.next HB8.out)).mono ?_
    rintro e w9 ⟨v9, f9, rfl, o9, hb9⟩
    obtain ⟨D1, g1, D2, g2, D3, g3, rfl⟩ := o9.form
    have R2 := (hb9.block (w.heap.size + 1 + 1) k5).trans HRX2.out
    have HO := Lib.hid o9
    have HB9 := Lib.hid (bstep HB8.out hb9)
    clear k0 kG k1 k2 k5 o9 hb9
    have k1 := fun j => cell_of_row _ _ j _ _ (0, 0) R2
    have k2 := fun j => frozen_of_row _ _ j _ _ R2
    have k5 := lt_of_block R2
    clear R2
    go_wp2
    refine bodyPost_ret (v := .tuple #[.agg #[.int .i64 r.way, .int .i64 r.pallet.w, .int .i64 r.pallet.d, .int .i64 r.pallet.h, .int .i64 r.pallet.gram, .int .i64 r.classes, .slice D1 r.pairs.length g1, .slice D2 r.types.length g2, .int .i64 r.master, .slice D3 r.items.length g3], .bool false]) (by simp [results, Tryz.results8, go_sem, k1, k2]) rfl ?_
    change MReqB w (withItem r x).1 (withItem r x).2 _ (setW w9 (w.heap.size + 1 + 1) 0 [.int .i64 r.way, .int .i64 r.pallet.w, .int .i64 r.pallet.d, .int .i64 r.pallet.h, .int .i64 r.pallet.gram, .int .i64 r.classes, .slice D1 r.pairs.length g1, .slice D2 r.types.length g2, .int .i64 r.master, .slice D3 r.items.length g3])
    rw [HS.out]
    have hs6 := HS6.out
    exact ⟨_, f9, rfl, (HO.out.base (by omega)).keep (fun k hk => heap_setW (by have := (HO.out.lt k hk).1; omega) _ _ 0), below_setW HB9.out (by omega) _ _⟩
end Go.Proofs.YteamlfcfillbjaaGreat
