/-
  The walks over what ends a change of an order (changed, l26Ends), both sides.
-/
import Derived.Test.YteamlfcfillbjaaGreatQh
import Derived.Test.YteamlfcfillbjaaGreatRs
namespace Go.Proofs.YteamlfcfillbjaaGreat
set_option linter.unusedVariables false
set_option linter.unusedSimpArgs false
set_option maxRecDepth 100000
open Go.RowKit
/-- what a change hands back: the changed order, where nothing is wrong with it; else the old one, in memory of the call's own -/
def Chg (w : World) (u : Value) (r q : Request) (e : Ending) (w' : World) : Prop := ∃ v', e = .returned (.tuple #[v', .bool (soundR q)]) ∧ Below w.heap.size w w' ∧ ((soundR q = true ∧ v' = u) ∨ (soundR q = false ∧ ∃ fp, OReq w' w.heap.size v' r fp))
theorem sound_class (q : Request) : soundR q = decide (classOf q = 0) := by unfold soundR; rw [Bool.eq_iff_iff]; simp
set_option maxRecDepth 100000 in
set_option maxHeartbeats 1000000 in
theorem changed_any (v u : Value) (r q : Request) (w : World) (h : RReq 16777216 w w.heap.size v r) (h2 : RReq 16777216 w w.heap.size u q) : Calls Tryz.prog 31 #[v, u] w (Chg w u r q) := by
  have HR := Lib.hid h
  have HQ := Lib.hid h2
  obtain ⟨A1, c1, A2, c2, A3, c3, rfl, _⟩ := h.opn
  obtain ⟨B1, d1, B2, d2, B3, d3, rfl, _⟩ := h2.opn
  have hq0 := lay_box0 w [.cells #[.int .i64 r.way, .int .i64 r.pallet.w, .int .i64 r.pallet.d, .int .i64 r.pallet.h, .int .i64 r.pallet.gram, .int .i64 r.classes, .slice A1 r.pairs.length c1, .slice A2 r.types.length c2, .int .i64 r.master, .slice A3 r.items.length c3] 37, .cells #[.int .i64 q.way, .int .i64 q.pallet.w, .int .i64 q.pallet.d, .int .i64 q.pallet.h, .int .i64 q.pallet.gram, .int .i64 q.classes, .slice B1 q.pairs.length d1, .slice B2 q.types.length d2, .int .i64 q.master, .slice B3 q.items.length d3] 37, .cells #[.int .i64 0, .int .i64 0, .int .i64 0, .int .i64 0, .int .i64 0, .int .i64 0, .slice none 0 0, .slice none 0 0, .int .i64 0, .slice none 0 0] 37] _ _ rfl
  have hq1 := lay_box w [.cells #[.int .i64 r.way, .int .i64 r.pallet.w, .int .i64 r.pallet.d, .int .i64 r.pallet.h, .int .i64 r.pallet.gram, .int .i64 r.classes, .slice A1 r.pairs.length c1, .slice A2 r.types.length c2, .int .i64 r.master, .slice A3 r.items.length c3] 37, .cells #[.int .i64 q.way, .int .i64 q.pallet.w, .int .i64 q.pallet.d, .int .i64 q.pallet.h, .int .i64 q.pallet.gram, .int .i64 q.classes, .slice B1 q.pairs.length d1, .slice B2 q.types.length d2, .int .i64 q.master, .slice B3 q.items.length d3] 37, .cells #[.int .i64 0, .int .i64 0, .int .i64 0, .int .i64 0, .int .i64 0, .int .i64 0, .slice none 0 0, .slice none 0 0, .int .i64 0, .slice none 0 0] 37] 1 _ _ rfl
  have hq2 := lay_box w [.cells #[.int .i64 r.way, .int .i64 r.pallet.w, .int .i64 r.pallet.d, .int .i64 r.pallet.h, .int .i64 r.pallet.gram, .int .i64 r.classes, .slice A1 r.pairs.length c1, .slice A2 r.types.length c2, .int .i64 r.master, .slice A3 r.items.length c3] 37, .cells #[.int .i64 q.way, .int .i64 q.pallet.w, .int .i64 q.pallet.d, .int .i64 q.pallet.h, .int .i64 q.pallet.gram, .int .i64 q.classes, .slice B1 q.pairs.length d1, .slice B2 q.types.length d2, .int .i64 q.master, .slice B3 q.items.length d3] 37, .cells #[.int .i64 0, .int .i64 0, .int .i64 0, .int .i64 0, .int .i64 0, .int .i64 0, .slice none 0 0, .slice none 0 0, .int .i64 0, .slice none 0 0] 37] 2 _ _ rfl
  have hf2 := lay_free w [.cells #[.int .i64 r.way, .int .i64 r.pallet.w, .int .i64 r.pallet.d, .int .i64 r.pallet.h, .int .i64 r.pallet.gram, .int .i64 r.classes, .slice A1 r.pairs.length c1, .slice A2 r.types.length c2, .int .i64 r.master, .slice A3 r.items.length c3] 37, .cells #[.int .i64 q.way, .int .i64 q.pallet.w, .int .i64 q.pallet.d, .int .i64 q.pallet.h, .int .i64 q.pallet.gram, .int .i64 q.classes, .slice B1 q.pairs.length d1, .slice B2 q.types.length d2, .int .i64 q.master, .slice B3 q.items.length d3] 37, .cells #[.int .i64 0, .int .i64 0, .int .i64 0, .int .i64 0, .int .i64 0, .int .i64 0, .slice none 0 0, .slice none 0 0, .int .i64 0, .slice none 0 0] 37] 2 _ _ rfl
  have hk2 := lay_blk w [.cells #[.int .i64 r.way, .int .i64 r.pallet.w, .int .i64 r.pallet.d, .int .i64 r.pallet.h, .int .i64 r.pallet.gram, .int .i64 r.classes, .slice A1 r.pairs.length c1, .slice A2 r.types.length c2, .int .i64 r.master, .slice A3 r.items.length c3] 37, .cells #[.int .i64 q.way, .int .i64 q.pallet.w, .int .i64 q.pallet.d, .int .i64 q.pallet.h, .int .i64 q.pallet.gram, .int .i64 q.classes, .slice B1 q.pairs.length d1, .slice B2 q.types.length d2, .int .i64 q.master, .slice B3 q.items.length d3] 37, .cells #[.int .i64 0, .int .i64 0, .int .i64 0, .int .i64 0, .int .i64 0, .int .i64 0, .slice none 0 0, .slice none 0 0, .int .i64 0, .slice none 0 0] 37] 2 _ rfl
  have HK2 := Lib.hid hk2
  have HL := Lib.hid (lay_low w [.cells #[.int .i64 r.way, .int .i64 r.pallet.w, .int .i64 r.pallet.d, .int .i64 r.pallet.h, .int .i64 r.pallet.gram, .int .i64 r.classes, .slice A1 r.pairs.length c1, .slice A2 r.types.length c2, .int .i64 r.master, .slice A3 r.items.length c3] 37, .cells #[.int .i64 q.way, .int .i64 q.pallet.w, .int .i64 q.pallet.d, .int .i64 q.pallet.h, .int .i64 q.pallet.gram, .int .i64 q.classes, .slice B1 q.pairs.length d1, .slice B2 q.types.length d2, .int .i64 q.master, .slice B3 q.items.length d3] 37, .cells #[.int .i64 0, .int .i64 0, .int .i64 0, .int .i64 0, .int .i64 0, .int .i64 0, .slice none 0 0, .slice none 0 0, .int .i64 0, .slice none 0 0] 37])
  have HLS := Lib.hid (lay_size w [.cells #[.int .i64 r.way, .int .i64 r.pallet.w, .int .i64 r.pallet.d, .int .i64 r.pallet.h, .int .i64 r.pallet.gram, .int .i64 r.classes, .slice A1 r.pairs.length c1, .slice A2 r.types.length c2, .int .i64 r.master, .slice A3 r.items.length c3] 37, .cells #[.int .i64 q.way, .int .i64 q.pallet.w, .int .i64 q.pallet.d, .int .i64 q.pallet.h, .int .i64 q.pallet.gram, .int .i64 q.classes, .slice B1 q.pairs.length d1, .slice B2 q.types.length d2, .int .i64 q.master, .slice B3 q.items.length d3] 37, .cells #[.int .i64 0, .int .i64 0, .int .i64 0, .int .i64 0, .int .i64 0, .int .i64 0, .slice none 0 0, .slice none 0 0, .int .i64 0, .slice none 0 0] 37])
  have HS := extC (lay_le w [.cells #[.int .i64 r.way, .int .i64 r.pallet.w, .int .i64 r.pallet.d, .int .i64 r.pallet.h, .int .i64 r.pallet.gram, .int .i64 r.classes, .slice A1 r.pairs.length c1, .slice A2 r.types.length c2, .int .i64 r.master, .slice A3 r.items.length c3] 37, .cells #[.int .i64 q.way, .int .i64 q.pallet.w, .int .i64 q.pallet.d, .int .i64 q.pallet.h, .int .i64 q.pallet.gram, .int .i64 q.classes, .slice B1 q.pairs.length d1, .slice B2 q.types.length d2, .int .i64 q.master, .slice B3 q.items.length d3] 37, .cells #[.int .i64 0, .int .i64 0, .int .i64 0, .int .i64 0, .int .i64 0, .int .i64 0, .slice none 0 0, .slice none 0 0, .int .i64 0, .slice none 0 0] 37]) fun X => sound_any _ q X.world (HQ.out.next (HL.out X))
  have HC := Lib.hid fun X => cloneRequest_any _ r (Ext.world X) (HR.out.next (HL.out X))
  obtain ⟨b, hb⟩ : ∃ b, soundR q = b := ⟨_, rfl⟩
  have HB := Lib.hid hb
  rw [hb] at HS
  clear hb h h2 hk2
  cases b
  · go_enter Tryz.func31, Tryz.ntmps31
    go_wp2_with (go_at_call 62; (first | refine (HS.out _).mono ?_ | refine (HS.out (Ext.here _ _)).mono ?_); rintro e w' ⟨rfl, Y, rfl⟩)
    refine (HC.out Y).mono ?_
    rintro e w4 ⟨v', fp, rfl, ho, hb4⟩
    obtain ⟨C1, e1, C2, e2, C3, e3, rfl⟩ := ho.form
    have hx := (hb4.block (w.heap.size + 2) (HLS.out Y)).trans (HK2.out Y)
    have k1 := fun j => cell_of_row _ _ j _ _ (0, 0) hx
    have k2 := fun j => frozen_of_row _ _ j _ _ hx
    have k4 := lt_of_block hx
    have HO := Lib.hid ho
    have HY := Lib.hid (HLS.out Y)
    have HW4 := Lib.hid (bstep (HL.out Y) hb4)
    clear hq0 hq1 hq2 hf2 ho hb4 hx
    go_wp2
    refine bodyPost_ret (v := .tuple #[.agg #[.int .i64 r.way, .int .i64 r.pallet.w, .int .i64 r.pallet.d, .int .i64 r.pallet.h, .int .i64 r.pallet.gram, .int .i64 r.classes, .slice C1 r.pairs.length e1, .slice C2 r.types.length e2, .int .i64 r.master, .slice C3 r.items.length e3], .bool false]) (by simp [results, Tryz.results31, go_sem, k1, k2]) rfl ?_
    change Chg w _ r q _ (setW w4 (w.heap.size + 2) 0 [.int .i64 r.way, .int .i64 r.pallet.w, .int .i64 r.pallet.d, .int .i64 r.pallet.h, .int .i64 r.pallet.gram, .int .i64 r.classes, .slice C1 r.pairs.length e1, .slice C2 r.types.length e2, .int .i64 r.master, .slice C3 r.items.length e3])
    have hy : w.heap.size + 3 ≤ Y.world.heap.size := HY.out
    exact ⟨_, by rw [HB.out], below_setW HW4.out (by omega) _ _, .inr ⟨HB.out, fp, (HO.out.base (by omega)).keep (fun k hk => heap_setW (by have := (HO.out.lt k hk).1; omega) _ _ 0)⟩⟩
  · go_enter Tryz.func31, Tryz.ntmps31
    go_wp2_with (go_at_call 62; (first | refine (HS.out _).mono ?_ | refine (HS.out (Ext.here _ _)).mono ?_); rintro e w' ⟨rfl, Y, rfl⟩)
    refine bodyPost_ret (v := .tuple #[.agg #[.int .i64 q.way, .int .i64 q.pallet.w, .int .i64 q.pallet.d, .int .i64 q.pallet.h, .int .i64 q.pallet.gram, .int .i64 q.classes, .slice B1 q.pairs.length d1, .slice B2 q.types.length d2, .int .i64 q.master, .slice B3 q.items.length d3], .bool true]) (by simp [results, Tryz.results31, go_sem, hq2, hf2]) rfl ?_
    change Chg w _ r q _ (setW Y.world (w.heap.size + 2) 0 [.int .i64 q.way, .int .i64 q.pallet.w, .int .i64 q.pallet.d, .int .i64 q.pallet.h, .int .i64 q.pallet.gram, .int .i64 q.classes, .slice B1 q.pairs.length d1, .slice B2 q.types.length d2, .int .i64 q.master, .slice B3 q.items.length d3])
    exact ⟨_, by rw [HB.out], below_setW (HL.out Y) (by omega) _ _, .inl ⟨HB.out, rfl⟩⟩
set_option maxRecDepth 100000 in
set_option maxHeartbeats 1000000 in
theorem l26Ends_any (v u : Value) (r q : Request) (w : World) (h : RReq 16777216 w w.heap.size v r) (h2 : RReq 16777216 w w.heap.size u q) : Calls Tryz.prog 44 #[v, u] w (Chg w u r q) := by
  have HR := Lib.hid h
  have HQ := Lib.hid h2
  obtain ⟨A1, c1, A2, c2, A3, c3, rfl, _⟩ := h.opn
  obtain ⟨B1, d1, B2, d2, B3, d3, rfl, _⟩ := h2.opn
  have hq0 := lay_box0 w [.cells #[.int .i64 r.way, .int .i64 r.pallet.w, .int .i64 r.pallet.d, .int .i64 r.pallet.h, .int .i64 r.pallet.gram, .int .i64 r.classes, .slice A1 r.pairs.length c1, .slice A2 r.types.length c2, .int .i64 r.master, .slice A3 r.items.length c3] 37, .cells #[.int .i64 q.way, .int .i64 q.pallet.w, .int .i64 q.pallet.d, .int .i64 q.pallet.h, .int .i64 q.pallet.gram, .int .i64 q.classes, .slice B1 q.pairs.length d1, .slice B2 q.types.length d2, .int .i64 q.master, .slice B3 q.items.length d3] 37, .cells #[.int .i64 0, .int .i64 0, .int .i64 0, .int .i64 0, .int .i64 0, .int .i64 0, .slice none 0 0, .slice none 0 0, .int .i64 0, .slice none 0 0] 37] _ _ rfl
  have hq1 := lay_box w [.cells #[.int .i64 r.way, .int .i64 r.pallet.w, .int .i64 r.pallet.d, .int .i64 r.pallet.h, .int .i64 r.pallet.gram, .int .i64 r.classes, .slice A1 r.pairs.length c1, .slice A2 r.types.length c2, .int .i64 r.master, .slice A3 r.items.length c3] 37, .cells #[.int .i64 q.way, .int .i64 q.pallet.w, .int .i64 q.pallet.d, .int .i64 q.pallet.h, .int .i64 q.pallet.gram, .int .i64 q.classes, .slice B1 q.pairs.length d1, .slice B2 q.types.length d2, .int .i64 q.master, .slice B3 q.items.length d3] 37, .cells #[.int .i64 0, .int .i64 0, .int .i64 0, .int .i64 0, .int .i64 0, .int .i64 0, .slice none 0 0, .slice none 0 0, .int .i64 0, .slice none 0 0] 37] 1 _ _ rfl
  have hq2 := lay_box w [.cells #[.int .i64 r.way, .int .i64 r.pallet.w, .int .i64 r.pallet.d, .int .i64 r.pallet.h, .int .i64 r.pallet.gram, .int .i64 r.classes, .slice A1 r.pairs.length c1, .slice A2 r.types.length c2, .int .i64 r.master, .slice A3 r.items.length c3] 37, .cells #[.int .i64 q.way, .int .i64 q.pallet.w, .int .i64 q.pallet.d, .int .i64 q.pallet.h, .int .i64 q.pallet.gram, .int .i64 q.classes, .slice B1 q.pairs.length d1, .slice B2 q.types.length d2, .int .i64 q.master, .slice B3 q.items.length d3] 37, .cells #[.int .i64 0, .int .i64 0, .int .i64 0, .int .i64 0, .int .i64 0, .int .i64 0, .slice none 0 0, .slice none 0 0, .int .i64 0, .slice none 0 0] 37] 2 _ _ rfl
  have hf2 := lay_free w [.cells #[.int .i64 r.way, .int .i64 r.pallet.w, .int .i64 r.pallet.d, .int .i64 r.pallet.h, .int .i64 r.pallet.gram, .int .i64 r.classes, .slice A1 r.pairs.length c1, .slice A2 r.types.length c2, .int .i64 r.master, .slice A3 r.items.length c3] 37, .cells #[.int .i64 q.way, .int .i64 q.pallet.w, .int .i64 q.pallet.d, .int .i64 q.pallet.h, .int .i64 q.pallet.gram, .int .i64 q.classes, .slice B1 q.pairs.length d1, .slice B2 q.types.length d2, .int .i64 q.master, .slice B3 q.items.length d3] 37, .cells #[.int .i64 0, .int .i64 0, .int .i64 0, .int .i64 0, .int .i64 0, .int .i64 0, .slice none 0 0, .slice none 0 0, .int .i64 0, .slice none 0 0] 37] 2 _ _ rfl
  have HK2 := Lib.hid (lay_blk w [.cells #[.int .i64 r.way, .int .i64 r.pallet.w, .int .i64 r.pallet.d, .int .i64 r.pallet.h, .int .i64 r.pallet.gram, .int .i64 r.classes, .slice A1 r.pairs.length c1, .slice A2 r.types.length c2, .int .i64 r.master, .slice A3 r.items.length c3] 37, .cells #[.int .i64 q.way, .int .i64 q.pallet.w, .int .i64 q.pallet.d, .int .i64 q.pallet.h, .int .i64 q.pallet.gram, .int .i64 q.classes, .slice B1 q.pairs.length d1, .slice B2 q.types.length d2, .int .i64 q.master, .slice B3 q.items.length d3] 37, .cells #[.int .i64 0, .int .i64 0, .int .i64 0, .int .i64 0, .int .i64 0, .int .i64 0, .slice none 0 0, .slice none 0 0, .int .i64 0, .slice none 0 0] 37] 2 _ rfl)
  have HL := Lib.hid (lay_low w [.cells #[.int .i64 r.way, .int .i64 r.pallet.w, .int .i64 r.pallet.d, .int .i64 r.pallet.h, .int .i64 r.pallet.gram, .int .i64 r.classes, .slice A1 r.pairs.length c1, .slice A2 r.types.length c2, .int .i64 r.master, .slice A3 r.items.length c3] 37, .cells #[.int .i64 q.way, .int .i64 q.pallet.w, .int .i64 q.pallet.d, .int .i64 q.pallet.h, .int .i64 q.pallet.gram, .int .i64 q.classes, .slice B1 q.pairs.length d1, .slice B2 q.types.length d2, .int .i64 q.master, .slice B3 q.items.length d3] 37, .cells #[.int .i64 0, .int .i64 0, .int .i64 0, .int .i64 0, .int .i64 0, .int .i64 0, .slice none 0 0, .slice none 0 0, .int .i64 0, .slice none 0 0] 37])
  have HLS := Lib.hid (lay_size w [.cells #[.int .i64 r.way, .int .i64 r.pallet.w, .int .i64 r.pallet.d, .int .i64 r.pallet.h, .int .i64 r.pallet.gram, .int .i64 r.classes, .slice A1 r.pairs.length c1, .slice A2 r.types.length c2, .int .i64 r.master, .slice A3 r.items.length c3] 37, .cells #[.int .i64 q.way, .int .i64 q.pallet.w, .int .i64 q.pallet.d, .int .i64 q.pallet.h, .int .i64 q.pallet.gram, .int .i64 q.classes, .slice B1 q.pairs.length d1, .slice B2 q.types.length d2, .int .i64 q.master, .slice B3 q.items.length d3] 37, .cells #[.int .i64 0, .int .i64 0, .int .i64 0, .int .i64 0, .int .i64 0, .int .i64 0, .slice none 0 0, .slice none 0 0, .int .i64 0, .slice none 0 0] 37])
  have HS := extC (lay_le w [.cells #[.int .i64 r.way, .int .i64 r.pallet.w, .int .i64 r.pallet.d, .int .i64 r.pallet.h, .int .i64 r.pallet.gram, .int .i64 r.classes, .slice A1 r.pairs.length c1, .slice A2 r.types.length c2, .int .i64 r.master, .slice A3 r.items.length c3] 37, .cells #[.int .i64 q.way, .int .i64 q.pallet.w, .int .i64 q.pallet.d, .int .i64 q.pallet.h, .int .i64 q.pallet.gram, .int .i64 q.classes, .slice B1 q.pairs.length d1, .slice B2 q.types.length d2, .int .i64 q.master, .slice B3 q.items.length d3] 37, .cells #[.int .i64 0, .int .i64 0, .int .i64 0, .int .i64 0, .int .i64 0, .int .i64 0, .slice none 0 0, .slice none 0 0, .int .i64 0, .slice none 0 0] 37]) fun X => sClass_any _ q X.world (HQ.out.next (HL.out X))
  have HC := Lib.hid fun X => l2Copy_any _ r (Ext.world X) (HR.out.next (HL.out X))
  have HSC := Lib.hid (sound_class q)
  obtain ⟨b, hb⟩ : ∃ b, classOf q = b := ⟨_, rfl⟩
  rw [hb] at HS HSC
  clear hb h h2
  by_cases hb : b = 0
  · have HB := Lib.hid (show soundR q = true by rw [HSC.out]; simpa using hb)
    subst hb
    go_enter Tryz.func44, Tryz.ntmps44
    go_wp2_with (go_at_call 25; (first | refine (HS.out _).mono ?_ | refine (HS.out (Ext.here _ _)).mono ?_); rintro e w' ⟨rfl, Y, rfl⟩)
    refine bodyPost_ret (v := .tuple #[.agg #[.int .i64 q.way, .int .i64 q.pallet.w, .int .i64 q.pallet.d, .int .i64 q.pallet.h, .int .i64 q.pallet.gram, .int .i64 q.classes, .slice B1 q.pairs.length d1, .slice B2 q.types.length d2, .int .i64 q.master, .slice B3 q.items.length d3], .bool true]) (by simp [results, Tryz.results44, go_sem, hq2, hf2]) rfl ?_
    change Chg w _ r q _ (setW Y.world (w.heap.size + 2) 0 [.int .i64 q.way, .int .i64 q.pallet.w, .int .i64 q.pallet.d, .int .i64 q.pallet.h, .int .i64 q.pallet.gram, .int .i64 q.classes, .slice B1 q.pairs.length d1, .slice B2 q.types.length d2, .int .i64 q.master, .slice B3 q.items.length d3])
    exact ⟨_, by rw [HB.out], below_setW (HL.out Y) (by omega) _ _, .inl ⟨HB.out, rfl⟩⟩
  · have HB := Lib.hid (show soundR q = false by rw [HSC.out]; simpa using hb)
    have hb' : (b != 0) = true := by simpa using hb
    clear hb
    go_enter Tryz.func44, Tryz.ntmps44
    go_wp2_with (go_at_call 25; (first | refine (HS.out _).mono ?_ | refine (HS.out (Ext.here _ _)).mono ?_); rintro e w' ⟨rfl, Y, rfl⟩)
    refine (HC.out Y).mono ?_
    rintro e w4 ⟨v', fp, rfl, ho, hb4⟩
    obtain ⟨C1, e1, C2, e2, C3, e3, rfl⟩ := ho.form
    have hx := (hb4.block (w.heap.size + 2) (HLS.out Y)).trans (HK2.out Y)
    have k1 := fun j => cell_of_row _ _ j _ _ (0, 0) hx
    have k2 := fun j => frozen_of_row _ _ j _ _ hx
    have k4 := lt_of_block hx
    have HO := Lib.hid ho
    have HY := Lib.hid (HLS.out Y)
    have HW4 := Lib.hid (bstep (HL.out Y) hb4)
    clear hq0 hq1 hq2 hf2 ho hb4 hx
    go_wp2
    refine bodyPost_ret (v := .tuple #[.agg #[.int .i64 r.way, .int .i64 r.pallet.w, .int .i64 r.pallet.d, .int .i64 r.pallet.h, .int .i64 r.pallet.gram, .int .i64 r.classes, .slice C1 r.pairs.length e1, .slice C2 r.types.length e2, .int .i64 r.master, .slice C3 r.items.length e3], .bool false]) (by simp [results, Tryz.results44, go_sem, k1, k2]) rfl ?_
    change Chg w _ r q _ (setW w4 (w.heap.size + 2) 0 [.int .i64 r.way, .int .i64 r.pallet.w, .int .i64 r.pallet.d, .int .i64 r.pallet.h, .int .i64 r.pallet.gram, .int .i64 r.classes, .slice C1 r.pairs.length e1, .slice C2 r.types.length e2, .int .i64 r.master, .slice C3 r.items.length e3])
    have hy : w.heap.size + 3 ≤ Y.world.heap.size := HY.out
    exact ⟨_, by rw [HB.out], below_setW HW4.out (by omega) _ _, .inr ⟨HB.out, fp, (HO.out.base (by omega)).keep (fun k hk => heap_setW (by have := (HO.out.lt k hk).1; omega) _ _ 0)⟩⟩
end Go.Proofs.YteamlfcfillbjaaGreat
