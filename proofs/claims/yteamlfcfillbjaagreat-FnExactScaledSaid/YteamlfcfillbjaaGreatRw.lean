/-
  The order without an item: both sides.
-/
import Derived.Test.YteamlfcfillbjaaGreatRv
import Derived.Test.YteamlfcfillbjaaGreatAg
import Derived.Deep.Light
import Derived.Deep.RegionHeld3
import Derived.Deep.DeepCutAuto
namespace Go.Proofs.YteamlfcfillbjaaGreat
set_option linter.unusedVariables false
set_option linter.unusedSimpArgs false
set_option maxRecDepth 100000
open Go.RowKit
def minusItem (r : Request) (id : Int) : Request := { r with items := r.items.filter (fun x => !(x.id == id)) }
def withoutItem (r : Request) (id : Int) : Request × Bool := if (minusItem r id).items.length < r.items.length ∧ soundR (minusItem r id) = true then (minusItem r id, true) else (r, false)
theorem minusItem_len (r : Request) (id : Int) : (minusItem r id).items.length ≤ r.items.length := List.length_filter_le _ _
theorem minusItem_bulk (r : Request) (id : Int) : (minusItem r id).bulk ≤ r.bulk := by
  have := minusItem_len r id
  unfold Request.bulk
  show r.pairs.length + r.types.length + (minusItem r id).items.length ≤ _
  omega
theorem withoutItem_bulk (r : Request) (id : Int) : (withoutItem r id).1.bulk ≤ r.bulk + 1 := by
  have := minusItem_bulk r id
  unfold withoutItem
  split
  · show (minusItem r id).bulk ≤ _
    omega
  · show r.bulk ≤ _
    omega
theorem Tch.cell {fp : List Nat} {w w' : World} (h : Tch fp w w') {b o : Nat} (hb : b < w.heap.size) (hn : b ∈ fp → False) : w'.cell? ⟨b, o, none⟩ = w.cell? ⟨b, o, none⟩ := by
  have := h.block b hb hn
  unfold World.cell?
  rw [this]
theorem Tch.put {fp : List Nat} {a w : World} {g : Nat} (h : Tch fp a w) (hg : g ∈ fp) (o : Nat) (u : Value) : Tch fp a (w.setCell ⟨g, o, none⟩ u) := Tch.setW hg [u] w o h
set_option maxHeartbeats 400000 in
theorem dropItems1_any (x : Item) (id : Int) (b : Nat) (w : World) (hc : w.cell? ⟨b, 0, none⟩ = some (.int .i64 id)) :
    Calls Tryz.prog 67 #[x.val, .pointer (some ⟨b, 0, none⟩)] w fun e w' => e = .returned (.bool (x.id == id)) ∧ Below w.heap.size w w' := by
  have hb := World.block_lt_of_cell? w _ hc
  go_enter Tryz.func67, Tryz.ntmps67
  go_wp2
  go_ret
  exact ⟨rfl, (by repeat' (first | with_reducible exact Below.refl _ _ | with_reducible assumption | with_reducible refine Below.drew ?_ | with_reducible refine Below.alloc ?_ ?_ _ | with_reducible refine Below.setCell ?_ ?_ _ | with_reducible refine below_drewN ?_ _ | (simp; done) | (simp; omega)))⟩
set_option maxRecDepth 100000 in
set_option maxHeartbeats 1000000 in
theorem dropItems_any (v : Value) (r : Request) (id : Int) (w : World) (h : RReq 16777216 w w.heap.size v r) : Calls Tryz.prog 42 #[v, .int .i64 id] w (MReqB w (minusItem r id) (decide ((minusItem r id).items.length < r.items.length))) := by
  have HR := Lib.hid h
  obtain ⟨A1, c1, A2, c2, A3, c3, rfl, _, hl1, hl2, hl3, _⟩ := h.opn
  have hS := (((Sit.here w).alloc #[.int .i64 r.way, .int .i64 r.pallet.w, .int .i64 r.pallet.d, .int .i64 r.pallet.h, .int .i64 r.pallet.gram, .int .i64 r.classes, .slice A1 r.pairs.length c1, .slice A2 r.types.length c2, .int .i64 r.master, .slice A3 r.items.length c3] 37).alloc #[.int .i64 id] 3).alloc #[.int .i64 0, .int .i64 0, .int .i64 0, .int .i64 0, .int .i64 0, .int .i64 0, .slice none 0 0, .slice none 0 0, .int .i64 0, .slice none 0 0] 37
  simp only [World.size_alloc] at hS
  have SN := Lib.hid hS
  clear h hS
  go_enter Tryz.func42, Tryz.ntmps42
  have k0 := SN.out.box (.tail _ (.tail _ (.head _)))
  have l0 := SN.out.boxlt (.tail _ (.tail _ (.head _)))
  go_wp2_with fail
  refine (cloneRequest_any _ r _ (HR.out.next SN.out.low)).mono ?_
  rintro e w1 ⟨u, fp, rfl, ho, hb⟩
  have hS := SN.out.req hb ho
  obtain ⟨vp, vt, vi, f1, f2, f3, rfl, o1, o2, o3, rfl, hnd⟩ := ho
  obtain ⟨B1, d1, rfl, _⟩ := o1.form
  obtain ⟨B2, d2, rfl, _⟩ := o2.form
  obtain ⟨B3, d3, rfl, _⟩ := o3.form
  have hS2 := hS.alloc #[.int .i64 r.way, .int .i64 r.pallet.w, .int .i64 r.pallet.d, .int .i64 r.pallet.h, .int .i64 r.pallet.gram, .int .i64 r.classes, .slice B1 r.pairs.length d1, .slice B2 r.types.length d2, .int .i64 r.master, .slice B3 r.items.length d3] 37
  obtain ⟨N, hN⟩ : ∃ N, ((((w.alloc (.cells #[.int .i64 r.way, .int .i64 r.pallet.w, .int .i64 r.pallet.d, .int .i64 r.pallet.h, .int .i64 r.pallet.gram, .int .i64 r.classes, .slice A1 r.pairs.length c1, .slice A2 r.types.length c2, .int .i64 r.master, .slice A3 r.items.length c3] 37)).alloc (.cells #[.int .i64 id] 3)).alloc (.cells #[.int .i64 0, .int .i64 0, .int .i64 0, .int .i64 0, .int .i64 0, .int .i64 0, .slice none 0 0, .slice none 0 0, .int .i64 0, .slice none 0 0] 37))).heap.size = N := ⟨_, rfl⟩
  rw [hN] at o1 o2 o3 hS2
  have hNw : w.heap.size + 3 = N := by rw [← hN]; simp
  have SN := Lib.hid hS2
  have hA : Below w1.heap.size w1 (w1.alloc (.cells #[.int .i64 r.way, .int .i64 r.pallet.w, .int .i64 r.pallet.d, .int .i64 r.pallet.h, .int .i64 r.pallet.gram, .int .i64 r.classes, .slice B1 r.pairs.length d1, .slice B2 r.types.length d2, .int .i64 r.master, .slice B3 r.items.length d3] 37)) := (by repeat' (first | with_reducible exact Below.refl _ _ | with_reducible assumption | with_reducible refine Below.drew ?_ | with_reducible refine Below.alloc ?_ ?_ _ | with_reducible refine Below.setCell ?_ ?_ _ | with_reducible refine below_drewN ?_ _ | (simp; done) | (simp; omega)))
  have hn2 := hnd
  rw [List.nodup_append, List.nodup_append] at hn2
  obtain ⟨_, ⟨_, _, d23⟩, dd1⟩ := hn2
  have HD13 := Lib.hid (fun b (h1 : b ∈ f1) (h3 : b ∈ f3) => dd1 b h1 b (by simp [h3]) rfl)
  have HD23 := Lib.hid (fun b (h2 : b ∈ f2) (h3 : b ∈ f3) => d23 b h2 b h3 rfl)
  have HND := Lib.hid hnd
  have O1 := Lib.hid (o1.next hA)
  have O2 := Lib.hid (o2.next hA)
  have O3 := Lib.hid (o3.next hA)
  have HNW := Lib.hid hNw
  have HID := Lib.hid (show ∀ W, Tch f3 (w1.alloc (.cells #[.int .i64 r.way, .int .i64 r.pallet.w, .int .i64 r.pallet.d, .int .i64 r.pallet.h, .int .i64 r.pallet.gram, .int .i64 r.classes, .slice B1 r.pairs.length d1, .slice B2 r.types.length d2, .int .i64 r.master, .slice B3 r.items.length d3] 37)) W → W.cell? ⟨w.heap.size + 1, 0, none⟩ = some (.int .i64 id) from fun W hW => by
    exact (Tch.cell hW (hS2.boxlt (.tail _ (.tail _ (.tail _ (.head _))))) (fun hc => by have := (O3.out.lt _ hc).1; omega)).trans (hS2.box (.tail _ (.tail _ (.tail _ (.head _)))) 0))
  have HLR := Lib.hid (show w.heap.size + 1 + 1 < w1.heap.size by have := hb.size; simp at this; omega)
  clear hS hS2 hN hNw hA o1 o2 o3 d23 dd1 hnd k0 l0 hb
  have k0 := SN.out.box (.head _)
  have l0 := SN.out.boxlt (.head _)
  dsimp only [Request.row]
  go_wp2_with fail
  refine (deleteFuncItem_any 67 #[.pointer (some ⟨w.heap.size + 1, 0, none⟩)] (fun x => x.id == id) _ r.items f3 N _ O3.out (by omega) (run_enter Tryz.func67 (by kernel_rfl) (by kernel_rfl)) (fun W x hW _ => dropItems1_any x id _ W (HID.out W hW))).mono ?_
  rintro e w2 ⟨v', rfl, o3, ht⟩
  obtain ⟨C3, e3, rfl, _⟩ := o3.form
  obtain ⟨m, hm⟩ : ∃ m, (List.filter (fun x : Item => !(x.id == id)) r.items).length = m := ⟨_, rfl⟩
  rw [hm] at o3 ⊢
  have hdis1 : ∀ b ∈ f1, b ∈ f3 → False := fun b h1 h3 => HD13.out b h1 h3
  have hdis2 : ∀ b ∈ f2, b ∈ f3 → False := fun b h2 h3 => HD23.out b h2 h3
  have ho : OReq w2 N (.agg #[.int .i64 r.way, .int .i64 r.pallet.w, .int .i64 r.pallet.d, .int .i64 r.pallet.h, .int .i64 r.pallet.gram, .int .i64 r.classes, .slice B1 r.pairs.length d1, .slice B2 r.types.length d2, .int .i64 r.master, .slice C3 m e3]) (minusItem r id) (f1 ++ (f2 ++ f3)) := ⟨_, _, _, f1, f2, f3, rfl, O1.out.tch ht hdis1, O2.out.tch ht hdis2, o3, rfl, HND.out⟩
  have hS := Sit.turn (l1 := [_]) SN.out (ht.sub (fun k hk => by simp [hk])) ho
  have hS2 := hS.store 9 (.slice C3 m e3)
  simp only [List.setIfInBounds_toArray, List.set_cons_zero, List.set_cons_succ] at hS2
  have SN := Lib.hid hS
  have SN2 := Lib.hid hS2
  have HM := Lib.hid hm
  clear k0 l0 hS hS2 ho hdis1 hdis2 o3 ht hm
  have k0 := SN.out.box (.head _)
  have k1 := SN.out.free (.head _)
  have l0 := SN.out.boxlt (.head _)
  go_upto_region 3 with fail
  generalize w2.setCell ⟨w1.heap.size, 9, none⟩ (.slice C3 m e3) = w3 at SN2 ⊢
  clear k0 k1 l0
  have k0 := SN2.out.box (.head _)
  have kA := SN2.out.box (.tail _ (.tail _ (.tail _ (.tail _ (.head _)))))
  have l0 := SN2.out.boxlt (.head _)
  have lA := SN2.out.boxlt (.tail _ (.tail _ (.tail _ (.tail _ (.head _)))))
  have kR := SN2.out.box (.tail _ (.tail _ (.head _)))
  have fR := SN2.out.free (.tail _ (.tail _ (.head _)))
  have lR := SN2.out.boxlt (.tail _ (.tail _ (.head _)))
  have hlr := HLR.out
  have HC := Lib.hid (show ∀ X : World, Tch [w.heap.size + 1 + 1] w3 X → (X.cell? ⟨w.heap.size, 9, none⟩ = some (.slice A3 r.items.length c3)) ∧ (X.cell? ⟨w1.heap.size, 0, none⟩ = some (.int .i64 r.way) ∧ X.cell? ⟨w1.heap.size, 1, none⟩ = some (.int .i64 r.pallet.w) ∧ X.cell? ⟨w1.heap.size, 2, none⟩ = some (.int .i64 r.pallet.d) ∧ X.cell? ⟨w1.heap.size, 3, none⟩ = some (.int .i64 r.pallet.h) ∧ X.cell? ⟨w1.heap.size, 4, none⟩ = some (.int .i64 r.pallet.gram) ∧ X.cell? ⟨w1.heap.size, 5, none⟩ = some (.int .i64 r.classes) ∧ X.cell? ⟨w1.heap.size, 6, none⟩ = some (.slice B1 r.pairs.length d1) ∧ X.cell? ⟨w1.heap.size, 7, none⟩ = some (.slice B2 r.types.length d2) ∧ X.cell? ⟨w1.heap.size, 8, none⟩ = some (.int .i64 r.master) ∧ X.cell? ⟨w1.heap.size, 9, none⟩ = some (.slice C3 m e3)) from fun X hX => by
    have a0 := fun j => (hX.cell (o := j) l0 (fun h => by simp at h; omega)).trans (k0 j)
    exact ⟨(hX.cell (o := 9) lA (fun h => by simp at h; omega)).trans (kA 9), a0 0, a0 1, a0 2, a0 3, a0 4, a0 5, a0 6, a0 7, a0 8, a0 9⟩)
  go_region_held3 (fun W' => (W'.cell? ⟨w.heap.size, 9, none⟩ = some (.slice A3 r.items.length c3)) ∧ (W'.cell? ⟨w1.heap.size, 0, none⟩ = some (.int .i64 r.way) ∧ W'.cell? ⟨w1.heap.size, 1, none⟩ = some (.int .i64 r.pallet.w) ∧ W'.cell? ⟨w1.heap.size, 2, none⟩ = some (.int .i64 r.pallet.d) ∧ W'.cell? ⟨w1.heap.size, 3, none⟩ = some (.int .i64 r.pallet.h) ∧ W'.cell? ⟨w1.heap.size, 4, none⟩ = some (.int .i64 r.pallet.gram) ∧ W'.cell? ⟨w1.heap.size, 5, none⟩ = some (.int .i64 r.classes) ∧ W'.cell? ⟨w1.heap.size, 6, none⟩ = some (.slice B1 r.pairs.length d1) ∧ W'.cell? ⟨w1.heap.size, 7, none⟩ = some (.slice B2 r.types.length d2) ∧ W'.cell? ⟨w1.heap.size, 8, none⟩ = some (.int .i64 r.master) ∧ W'.cell? ⟨w1.heap.size, 9, none⟩ = some (.slice C3 m e3)))
    (first | (refine HC.out _ ?_; (repeat' (first | with_reducible exact Tch.refl _ _ | with_reducible refine Tch.drew ?_ | with_reducible refine Tch.put ?_ (by simp) _ _)); done) | go_keep)
    (fail)
  all_goals clear k0 l0 kA lA HC
  all_goals go_wp2
  refine bodyPost_ret (v := .tuple #[.agg #[.int .i64 r.way, .int .i64 r.pallet.w, .int .i64 r.pallet.d, .int .i64 r.pallet.h, .int .i64 r.pallet.gram, .int .i64 r.classes, .slice B1 r.pairs.length d1, .slice B2 r.types.length d2, .int .i64 r.master, .slice C3 m e3], .bool (decide (m < r.items.length))]) (by simp [results, Tryz.results42, go_sem, kR, fR]) rfl ?_
  rw [show (minusItem r id).items.length = m from HM.out]
  change MReqB w (minusItem r id) _ _ (setW w3 (w.heap.size + 1 + 1) 0 [.int .i64 r.way, .int .i64 r.pallet.w, .int .i64 r.pallet.d, .int .i64 r.pallet.h, .int .i64 r.pallet.gram, .int .i64 r.classes, .slice B1 r.pairs.length d1, .slice B2 r.types.length d2, .int .i64 r.master, .slice C3 m e3]).drew
  have ho := SN2.out.own (.tail _ (.head _))
  have hnw := HNW.out
  exact ⟨_, _, rfl, ((ho.base (B := w.heap.size) (by omega)).keep (w' := setW w3 (w.heap.size + 1 + 1) 0 [.int .i64 r.way, .int .i64 r.pallet.w, .int .i64 r.pallet.d, .int .i64 r.pallet.h, .int .i64 r.pallet.gram, .int .i64 r.classes, .slice B1 r.pairs.length d1, .slice B2 r.types.length d2, .int .i64 r.master, .slice C3 m e3]) (fun k hk => heap_setW (by have := (ho.lt k hk).1; omega) _ _ 0)).next (Below.refl _ _).drew, (below_setW SN2.out.low (by omega) _ _).drew⟩
theorem minusItem_same {r : Request} {id : Int} (h : ¬ (minusItem r id).items.length < r.items.length) : minusItem r id = r := by
  have h1 : (minusItem r id).items = r.items := List.Sublist.eq_of_length_le List.filter_sublist (by have := minusItem_len r id; show r.items.length ≤ (minusItem r id).items.length; omega)
  unfold minusItem at h1 ⊢
  simp only at h1
  rw [h1]
/-- the order that is handed back lies ahead of the result's box, or is read from it -/
theorem mreqb_of {w W : World} {b g : Nat} {v : Value} {r : Request} {fp : List Nat} {bb : Bool} {us : List Value} (hl : Below w.heap.size w W) (ho : OReq W b v r fp) (hb : w.heap.size ≤ b) (hg : w.heap.size ≤ g) (hn : g < b ∨ g ∉ fp) : MReqB w r bb (.returned (.tuple #[v, .bool bb])) (setW W g 0 us) :=
  ⟨v, fp, rfl, (ho.base hb).keep (fun k hk => heap_setW (by rcases hn with hn | hn; exact (by have := (ho.lt k hk).1; omega); exact fun e => hn (e ▸ hk)) _ _ 0), below_setW hl hg _ _⟩
set_option maxRecDepth 100000 in
set_option maxHeartbeats 1000000 in
theorem iWithoutItem_any (v : Value) (r : Request) (id : Int) (w : World) (h : RReq 16777216 w w.heap.size v r) (hbk : r.bulk ≤ 1048576) : Calls Tryz.prog 16 #[v, .int .i64 id] w (MReqB w (withoutItem r id).1 (withoutItem r id).2) := by
  have HR := Lib.hid h
  obtain ⟨A1, c1, A2, c2, A3, c3, rfl, _⟩ := h.opn
  have hS := ((Sit.here w).alloc #[.int .i64 r.way, .int .i64 r.pallet.w, .int .i64 r.pallet.d, .int .i64 r.pallet.h, .int .i64 r.pallet.gram, .int .i64 r.classes, .slice A1 r.pairs.length c1, .slice A2 r.types.length c2, .int .i64 r.master, .slice A3 r.items.length c3] 37).alloc #[.int .i64 0, .int .i64 0, .int .i64 0, .int .i64 0, .int .i64 0, .int .i64 0, .slice none 0 0, .slice none 0 0, .int .i64 0, .slice none 0 0] 37
  simp only [World.size_alloc] at hS
  have SN := Lib.hid hS
  clear h hS
  go_enter Tryz.func16, Tryz.ntmps16
  have k0 := SN.out.box (.tail _ (.head _))
  have l0 := SN.out.boxlt (.tail _ (.head _))
  go_wp2_with fail
  refine (dropItems_any _ r id _ (HR.out.next SN.out.low)).mono ?_
  rintro e w1 ⟨u, fp, rfl, ho, hb⟩
  obtain ⟨B1, d1, B2, d2, B3, d3, rfl⟩ := ho.form
  have hqb := minusItem_bulk r id
  have hsm := @minusItem_same r id
  obtain ⟨q, hq⟩ : ∃ q, minusItem r id = q := ⟨_, rfl⟩
  have HW := Lib.hid (show withoutItem r id = if q.items.length < r.items.length ∧ soundR q = true then (q, true) else (r, false) by rw [← hq]; rfl)
  rw [hq] at ho hqb hsm ⊢
  have hS := (SN.out.req hb ho).alloc #[.int .i64 q.way, .int .i64 q.pallet.w, .int .i64 q.pallet.d, .int .i64 q.pallet.h, .int .i64 q.pallet.gram, .int .i64 q.classes, .slice B1 q.pairs.length d1, .slice B2 q.types.length d2, .int .i64 q.master, .slice B3 q.items.length d3] 37
  have SN := Lib.hid hS
  have HNW := Lib.hid (show w.heap.size + 2 ≤ w1.heap.size by have := hb.size; simp at this; omega)
  clear hS ho hb hq k0 l0
  by_cases hlt : q.items.length < r.items.length
  · have k0 := SN.out.box (.head _)
    have l0 := SN.out.boxlt (.head _)
    have k1 := SN.out.box (.tail _ (.tail _ (.tail _ (.head _))))
    have l1 := SN.out.boxlt (.tail _ (.tail _ (.tail _ (.head _))))
    have HLT := Lib.hid hlt
    have hdl : decide (q.items.length < r.items.length) = true := by simpa using hlt
    clear hlt hsm
    go_wp2_with fail
    refine (changed_any _ _ r q _ (HR.out.next SN.out.low) ((SN.out.own (.tail _ (.head _))).read (by omega))).mono ?_
    rintro e w2 ⟨v', rfl, hb2, hv⟩
    have hO : ∃ b fp2, OReq w2 b v' (withoutItem r id).1 fp2 ∧ w.heap.size + 2 ≤ b ∧ soundR q = (withoutItem r id).2 := by
      rw [HW.out]
      rcases hv with ⟨hs, rfl⟩ | ⟨hs, fp2, ho⟩
      · rw [if_pos ⟨HLT.out, hs⟩]
        exact ⟨_, _, (SN.out.next hb2).own (.tail _ (.head _)), by simp, hs⟩
      · rw [if_neg (by simp [hs])]
        exact ⟨_, _, ho, by have := HNW.out; simp; omega, hs⟩
    clear hv
    obtain ⟨b, fp2, ho, hbb, hsq⟩ := hO
    rw [hsq]
    obtain ⟨p, hp⟩ : ∃ p, withoutItem r id = p := ⟨_, rfl⟩
    have HP := Lib.hid hp
    rw [hp] at ho ⊢
    obtain ⟨p, pb⟩ := p
    obtain ⟨D1, g1, D2, g2, D3, g3, rfl⟩ := ho.form
    have HO := Lib.hid ho
    have SN := Lib.hid (SN.out.next hb2)
    have HBB := Lib.hid hbb
    clear k0 l0 k1 l1 ho hsq hp hb2 hbb
    have k1 := SN.out.box (.tail _ (.tail _ (.head _)))
    have f1 := SN.out.free (.tail _ (.tail _ (.head _)))
    have l1 := SN.out.boxlt (.tail _ (.tail _ (.head _)))
    go_wp2
    refine bodyPost_ret (v := .tuple #[.agg #[.int .i64 p.way, .int .i64 p.pallet.w, .int .i64 p.pallet.d, .int .i64 p.pallet.h, .int .i64 p.pallet.gram, .int .i64 p.classes, .slice D1 p.pairs.length g1, .slice D2 p.types.length g2, .int .i64 p.master, .slice D3 p.items.length g3], .bool pb]) (by simp [results, Tryz.results16, go_sem, k1, f1]) rfl ?_
    rw [HP.out]
    exact mreqb_of (g := w.heap.size + 1) (us := [.int .i64 p.way, .int .i64 p.pallet.w, .int .i64 p.pallet.d, .int .i64 p.pallet.h, .int .i64 p.pallet.gram, .int .i64 p.classes, .slice D1 p.pairs.length g1, .slice D2 p.types.length g2, .int .i64 p.master, .slice D3 p.items.length g3]) SN.out.low HO.out (by have := HBB.out; omega) (by omega) (.inl (by have := HBB.out; omega))
  · have hdl : decide (q.items.length < r.items.length) = false := by simpa using hlt
    have HQ := Lib.hid (hsm hlt)
    have HW2 := Lib.hid (show withoutItem r id = (r, false) by rw [HW.out, if_neg (fun h => hlt h.1)])
    have k0 := SN.out.box (.head _)
    have l0 := SN.out.boxlt (.head _)
    have k1 := SN.out.box (.tail _ (.tail _ (.head _)))
    have f1 := SN.out.free (.tail _ (.tail _ (.head _)))
    have l1 := SN.out.boxlt (.tail _ (.tail _ (.head _)))
    clear hlt hsm
    go_wp2
    refine bodyPost_ret (v := .tuple #[.agg #[.int .i64 q.way, .int .i64 q.pallet.w, .int .i64 q.pallet.d, .int .i64 q.pallet.h, .int .i64 q.pallet.gram, .int .i64 q.classes, .slice B1 q.pairs.length d1, .slice B2 q.types.length d2, .int .i64 q.master, .slice B3 q.items.length d3], .bool false]) (by simp [results, Tryz.results16, go_sem, k1, f1]) rfl ?_
    have hnw := HNW.out
    have hx := mreqb_of (w := w) (bb := false) (us := [.int .i64 q.way, .int .i64 q.pallet.w, .int .i64 q.pallet.d, .int .i64 q.pallet.h, .int .i64 q.pallet.gram, .int .i64 q.classes, .slice B1 q.pairs.length d1, .slice B2 q.types.length d2, .int .i64 q.master, .slice B3 q.items.length d3]) (g := w.heap.size + 1) SN.out.low (SN.out.own (.tail _ (.head _))) (by simp; omega) (by omega) (.inl (by simp))
    rw [HW2.out]
    have hqr := HQ.out
    subst hqr
    exact hx
set_option maxRecDepth 100000 in
set_option maxHeartbeats 1000000 in
theorem sWithoutItem_any (v : Value) (r : Request) (id : Int) (w : World) (h : RReq 16777216 w w.heap.size v r) (hbk : r.bulk ≤ 1048576) : Calls Tryz.prog 15 #[v, .int .i64 id] w (MReqB w (withoutItem r id).1 (withoutItem r id).2) := by
  have HR := Lib.hid h
  obtain ⟨A1, c1, A2, c2, A3, c3, rfl, ⟨_, _, H3⟩, _, _, hl3, _⟩ := h.opn
  have hS := ((Sit.here w).alloc #[.int .i64 r.way, .int .i64 r.pallet.w, .int .i64 r.pallet.d, .int .i64 r.pallet.h, .int .i64 r.pallet.gram, .int .i64 r.classes, .slice A1 r.pairs.length c1, .slice A2 r.types.length c2, .int .i64 r.master, .slice A3 r.items.length c3] 37).alloc #[.int .i64 0, .int .i64 0, .int .i64 0, .int .i64 0, .int .i64 0, .int .i64 0, .slice none 0 0, .slice none 0 0, .int .i64 0, .slice none 0 0] 37
  simp only [World.size_alloc] at hS
  have SN := Lib.hid hS
  have hil : r.items.length ≤ 1048576 := by unfold Request.bulk at hbk; omega
  have HW := Lib.hid (show withoutItem r id = if (minusItem r id).items.length < r.items.length ∧ soundR (minusItem r id) = true then (minusItem r id, true) else (r, false) from rfl)
  clear h hS
  go_enter Tryz.func15, Tryz.ntmps15
  have k0 := SN.out.box (.tail _ (.head _))
  have l0 := SN.out.boxlt (.tail _ (.head _))
  go_wp2_with fail
  refine (l2Copy_any _ r _ (HR.out.next SN.out.low)).mono ?_
  rintro e w1 ⟨u, fp, rfl, ho, hb⟩
  obtain ⟨B1, d1, B2, d2, B3, d3, rfl⟩ := ho.form
  have hS := (SN.out.req hb ho).alloc #[.int .i64 r.way, .int .i64 r.pallet.w, .int .i64 r.pallet.d, .int .i64 r.pallet.h, .int .i64 r.pallet.gram, .int .i64 r.classes, .slice B1 r.pairs.length d1, .slice B2 r.types.length d2, .int .i64 r.master, .slice none 0 0] 37
  simp only [World.size_alloc] at hS
  obtain ⟨f1, f2, f3, _, hS⟩ := hS.rot2.apartReq
  have SN := Lib.hid ((hS.rot3.drop.addNil (f := Item.cells) (e := 41) (K := 7) (w.heap.size + 1 + 1)))
  have HNW := Lib.hid (show w.heap.size + 2 ≤ w1.heap.size by have := hb.size; simp at this; omega)
  clear hS ho hb k0 l0
  have k1 := SN.out.box (.tail _ (.tail _ (.tail _ (.head _))))
  have l1 := SN.out.boxlt (.tail _ (.tail _ (.tail _ (.head _))))
  go_wp2
  go_loopw [7] (fun i wr => ∃ (k : Nat) (v3 : Value) (g3 : List Nat), k ≤ r.items.length ∧ i = .int .i64 k ∧ Hid (Sit w wr [fOF Item.cells 41 7 (w.heap.size + 1 + 1) v3 ((r.items.take k).filter (fun x => !(x.id == id))) g3, fOF Pair.cells 81 2 (w.heap.size + 1 + 1) (.slice B1 r.pairs.length d1) r.pairs f1, fOF GType.cells 67 7 (w.heap.size + 1 + 1) (.slice B2 r.types.length d2) r.types f2, fBox w1.heap.size #[.int .i64 r.way, .int .i64 r.pallet.w, .int .i64 r.pallet.d, .int .i64 r.pallet.h, .int .i64 r.pallet.gram, .int .i64 r.classes, .slice B1 r.pairs.length d1, .slice B2 r.types.length d2, .int .i64 r.master, v3] 37, fBox (w.heap.size + 1) #[.int .i64 0, .int .i64 0, .int .i64 0, .int .i64 0, .int .i64 0, .int .i64 0, .slice none 0 0, .slice none 0 0, .int .i64 0, .slice none 0 0] 37, fBox w.heap.size #[.int .i64 r.way, .int .i64 r.pallet.w, .int .i64 r.pallet.d, .int .i64 r.pallet.h, .int .i64 r.pallet.gram, .int .i64 r.classes, .slice A1 r.pairs.length c1, .slice A2 r.types.length c2, .int .i64 r.master, .slice A3 r.items.length c3] 37])) (fun i _ => r.items.length - (intOf i).toNat)
  case atStart => exact ⟨0, _, _, Nat.zero_le _, rfl, Lib.hid (by rw [List.take_zero, List.filter_nil]; exact SN.out)⟩
  case round =>
    clear SN k1 l1
    obtain ⟨k, v3, g3, hk, rfl, SN⟩ := hrel
    obtain ⟨C3, e3, rfl, _⟩ := (SN.out.list (.head _)).form
    obtain ⟨L, hL⟩ : ∃ L, (r.items.take k).filter (fun x => !(x.id == id)) = L := ⟨_, rfl⟩
    have HL := Lib.hid hL
    have hLl : L.length ≤ 1048576 := by rw [← hL]; have := List.length_filter_le (fun x : Item => !(x.id == id)) (r.items.take k); simp at this ⊢; omega
    rw [hL] at SN
    clear hL
    have k0 := SN.out.box (.tail _ (.tail _ (.tail _ (.tail _ (.tail _ (.head _))))))
    have l0 := SN.out.boxlt (.tail _ (.tail _ (.tail _ (.tail _ (.tail _ (.head _))))))
    have k1 := SN.out.box (.tail _ (.tail _ (.tail _ (.head _))))
    have l1 := SN.out.boxlt (.tail _ (.tail _ (.tail _ (.head _))))
    by_cases hlt : k < r.items.length
    · obtain ⟨b, off, x, _, heq, hb, hxk, _, hfx, hc⟩ := (H3.next (flat_mono _) SN.out.low).at_ k hlt
      cases heq
      cases hfx
      have hc0 := hc 0 _ rfl; have hc1 := hc 1 _ rfl; have hc2 := hc 2 _ rfl; have hc3 := hc 3 _ rfl; have hc4 := hc 4 _ rfl; have hc5 := hc 5 _ rfl; have hc6 := hc 6 _ rfl; simp only [Nat.add_zero] at hc0
      have hbw : b < wr.heap.size := Nat.lt_of_lt_of_le hb (Nat.le_refl _)
      have HX := Lib.hid hxk
      clear hc hxk
      cases hid : x.id == id
      · have HID := Lib.hid hid
        have hid' : (x.id != id) = true := by simp [bne, hid]
        go_wp2
        go_region_law (refine sapp_Item (.tmp 27) (.tmp 33) rfl rfl x rfl rfl (heap_alloc_new _ _) rfl ((SN.out.list (.head _)).next (by repeat' (first | with_reducible exact Below.refl _ _ | with_reducible assumption | with_reducible refine Below.drew ?_ | with_reducible refine Below.alloc ?_ ?_ _ | with_reducible refine Below.setCell ?_ ?_ _ | with_reducible refine below_drewN ?_ _ | (simp; done) | (simp; omega)))) (by omega) (by first | omega | (simp; omega)) ?_; intro v7 w7 ha; obtain ⟨g7, S7⟩ := (SN.out.next (by repeat' (first | with_reducible exact Below.refl _ _ | with_reducible assumption | with_reducible refine Below.drew ?_ | with_reducible refine Below.alloc ?_ ?_ _ | with_reducible refine Below.setCell ?_ ?_ _ | with_reducible refine below_drewN ?_ _ | (simp; done) | (simp; omega)))).app ha; obtain ⟨C7, e7, rfl, _⟩ := (S7.list (.head _)).form; rw [show (L ++ [x]).length = L.length + 1 by simp] at S7; have SN7 := Lib.hid S7; have k7 := S7.box (.tail _ (.tail _ (.tail _ (.head _)))); have m7 := S7.free (.tail _ (.tail _ (.tail _ (.head _)))); have l7 := S7.boxlt (.tail _ (.tail _ (.tail _ (.head _)))); clear S7 ha)
        all_goals
          have hS := SN7.out.rot4.store 9 (.slice C7 (L.length + 1) e7)
          simp only [List.setIfInBounds_toArray, List.set_cons_zero, List.set_cons_succ] at hS
          have S8 := Lib.hid hS.ror4
          have HQ := Lib.hid (show (r.items.take (k + 1)).filter (fun x => !(x.id == id)) = L ++ [x] by rw [List.take_add_one, HX.out, List.filter_append, HL.out]; simp [HID.out])
          clear hS k0 l0
          go_wp2
          go_roundw
          case rel => exact ⟨k + 1, _, _, hlt, by go_num, Lib.hid (by rw [HQ.out]; first | exact S8.out | exact S8.out.drew)⟩
          case measure => simp [intOf]; omega
      · have HQ := Lib.hid (show (r.items.take (k + 1)).filter (fun x => !(x.id == id)) = L by rw [List.take_add_one, HX.out, List.filter_append, HL.out]; simp [hid])
        have hid' : (x.id != id) = false := by simp [bne, hid]
        go_wp2
        go_roundw
        case rel => exact ⟨k + 1, _, _, hlt, by go_num, Lib.hid (by rw [HQ.out]; exact SN.out)⟩
        case measure => simp [intOf]; omega
    · obtain rfl : k = r.items.length := by omega
      have hq0 : (minusItem r id).items = L := by rw [← HL.out, List.take_length]; rfl
      obtain ⟨q, hq⟩ : ∃ q, minusItem r id = q := ⟨_, rfl⟩
      have e1 : q.pairs = r.pairs := by rw [← hq]; rfl
      have e2 : q.types = r.types := by rw [← hq]; rfl
      have HRW := Lib.hid (show ∀ a b c, q.row a b c = r.row a b c by rw [← hq]; exact fun _ _ _ => rfl)
      have hqb := minusItem_bulk r id
      have hsm := @minusItem_same r id
      have HW := HW
      rw [hq] at hq0 hqb hsm HW
      have hSq := SN.out.rot3.rot3
      rw [← e1, ← e2, ← hq0] at hSq
      have hS := hSq.joinReq
      rw [HRW.out] at hS
      rw [e1, e2, hq0] at hS
      have SN := Lib.hid hS
      clear hS hSq k0 l0 k1 l1
      have k0 := SN.out.box (.tail _ (.tail _ (.tail _ (.head _))))
      have l0 := SN.out.boxlt (.tail _ (.tail _ (.tail _ (.head _))))
      have k1 := SN.out.box (.tail _ (.head _))
      have l1 := SN.out.boxlt (.tail _ (.head _))
      have k2 := SN.out.box (.tail _ (.tail _ (.head _)))
      have f2' := SN.out.free (.tail _ (.tail _ (.head _)))
      have l2 := SN.out.boxlt (.tail _ (.tail _ (.head _)))
      have HQ0 := Lib.hid hq0
      clear hq e1 e2
      by_cases hml : L.length < r.items.length
      · have hml' : (((L.length : Int)) == (r.items.length : Int)) = false := by simp; omega
        go_wp2_with fail
        refine (sClass_any _ q _ ((SN.out.own (.head _)).read (by omega))).mono ?_
        rintro e w2 ⟨rfl, hb2⟩
        have SN := Lib.hid (SN.out.next hb2)
        have HSC := Lib.hid (sound_class q)
        obtain ⟨c, hc⟩ : ∃ c, classOf q = c := ⟨_, rfl⟩
        rw [hc] at HSC ⊢
        clear k0 l0 k1 l1 k2 f2' l2 hb2 hc
        have k0 := SN.out.box (.tail _ (.tail _ (.tail _ (.head _))))
        have l0 := SN.out.boxlt (.tail _ (.tail _ (.tail _ (.head _))))
        have k1 := SN.out.box (.tail _ (.head _))
        have l1 := SN.out.boxlt (.tail _ (.head _))
        have k2 := SN.out.box (.tail _ (.tail _ (.head _)))
        have f2' := SN.out.free (.tail _ (.tail _ (.head _)))
        have l2 := SN.out.boxlt (.tail _ (.tail _ (.head _)))
        by_cases hz : c = 0
        · have HWT := Lib.hid (show withoutItem r id = (q, true) by rw [HW.out, HQ0.out, if_pos ⟨hml, by rw [HSC.out]; simpa using hz⟩])
          have hnw := HNW.out
          subst hz
          go_wp2
          refine bodyPost_ret (v := .tuple #[.agg #[.int .i64 r.way, .int .i64 r.pallet.w, .int .i64 r.pallet.d, .int .i64 r.pallet.h, .int .i64 r.pallet.gram, .int .i64 r.classes, .slice B1 r.pairs.length d1, .slice B2 r.types.length d2, .int .i64 r.master, .slice C3 L.length e3], .bool true]) (by simp [results, Tryz.results15, go_sem, k2, f2']) rfl ?_
          rw [HWT.out]
          exact mreqb_of (w := w) (bb := true) (g := w.heap.size + 1) (us := [.int .i64 r.way, .int .i64 r.pallet.w, .int .i64 r.pallet.d, .int .i64 r.pallet.h, .int .i64 r.pallet.gram, .int .i64 r.classes, .slice B1 r.pairs.length d1, .slice B2 r.types.length d2, .int .i64 r.master, .slice C3 L.length e3]) SN.out.low (SN.out.own (.head _)) (by omega) (by omega) (.inl (by omega))
        · have HWF := Lib.hid (show withoutItem r id = (r, false) by rw [HW.out, HQ0.out, if_neg (fun h => hz (by have h2 := h.2; rw [HSC.out] at h2; simpa using h2))])
          have hz' : (c != 0) = true := by simpa using hz
          clear hz
          go_wp2_with fail
          refine (l2Copy_any _ r _ (HR.out.next SN.out.low)).mono ?_
          rintro e w9 ⟨v9, f9, rfl, o9, hb9⟩
          obtain ⟨D1, g1, D2, g2, D3, g3, rfl⟩ := o9.form
          have HO := Lib.hid o9
          have SN := Lib.hid (SN.out.next hb9)
          have HLT := Lib.hid l2
          clear k0 l0 k1 l1 k2 f2' l2 o9 hb9
          have k2 := SN.out.box (.tail _ (.tail _ (.head _)))
          have f2' := SN.out.free (.tail _ (.tail _ (.head _)))
          have l2 := SN.out.boxlt (.tail _ (.tail _ (.head _)))
          go_wp2
          refine bodyPost_ret (v := .tuple #[.agg #[.int .i64 r.way, .int .i64 r.pallet.w, .int .i64 r.pallet.d, .int .i64 r.pallet.h, .int .i64 r.pallet.gram, .int .i64 r.classes, .slice D1 r.pairs.length g1, .slice D2 r.types.length g2, .int .i64 r.master, .slice D3 r.items.length g3], .bool false]) (by simp [results, Tryz.results15, go_sem, k2, f2']) rfl ?_
          rw [HWF.out]
          have hlt := HLT.out
          exact mreqb_of (w := w) (bb := false) (g := w.heap.size + 1) (us := [.int .i64 r.way, .int .i64 r.pallet.w, .int .i64 r.pallet.d, .int .i64 r.pallet.h, .int .i64 r.pallet.gram, .int .i64 r.classes, .slice D1 r.pairs.length g1, .slice D2 r.types.length g2, .int .i64 r.master, .slice D3 r.items.length g3]) SN.out.low HO.out (by omega) (by omega) (.inl (by omega))
      · have HWF := Lib.hid (show withoutItem r id = (r, false) by rw [HW.out, HQ0.out, if_neg (fun h => hml h.1)])
        have hml' : L.length = r.items.length := by have := HL.out; have h2 := List.length_filter_le (fun x : Item => !(x.id == id)) (r.items.take r.items.length); rw [this] at h2; simp at h2; omega
        go_wp2_with fail
        refine (l2Copy_any _ r _ (HR.out.next SN.out.low)).mono ?_
        rintro e w9 ⟨v9, f9, rfl, o9, hb9⟩
        obtain ⟨D1, g1, D2, g2, D3, g3, rfl⟩ := o9.form
        have HO := Lib.hid o9
        have SN := Lib.hid (SN.out.next hb9)
        have HLT := Lib.hid l2
        clear k0 l0 k1 l1 k2 f2' l2 o9 hb9
        have k2 := SN.out.box (.tail _ (.tail _ (.head _)))
        have f2' := SN.out.free (.tail _ (.tail _ (.head _)))
        have l2 := SN.out.boxlt (.tail _ (.tail _ (.head _)))
        go_wp2
        refine bodyPost_ret (v := .tuple #[.agg #[.int .i64 r.way, .int .i64 r.pallet.w, .int .i64 r.pallet.d, .int .i64 r.pallet.h, .int .i64 r.pallet.gram, .int .i64 r.classes, .slice D1 r.pairs.length g1, .slice D2 r.types.length g2, .int .i64 r.master, .slice D3 r.items.length g3], .bool false]) (by simp [results, Tryz.results15, go_sem, k2, f2']) rfl ?_
        rw [HWF.out]
        have hlt := HLT.out
        exact mreqb_of (w := w) (bb := false) (g := w.heap.size + 1) (us := [.int .i64 r.way, .int .i64 r.pallet.w, .int .i64 r.pallet.d, .int .i64 r.pallet.h, .int .i64 r.pallet.gram, .int .i64 r.classes, .slice D1 r.pairs.length g1, .slice D2 r.types.length g2, .int .i64 r.master, .slice D3 r.items.length g3]) SN.out.low HO.out (by omega) (by omega) (.inl (by omega))
end Go.Proofs.YteamlfcfillbjaaGreat
