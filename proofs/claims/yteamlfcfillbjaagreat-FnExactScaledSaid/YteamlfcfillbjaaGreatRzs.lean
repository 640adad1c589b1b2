/-
  Scaled, both sides (written by scfam.py).
-/
import Derived.Test.YteamlfcfillbjaaGreatRy
import Derived.Test.YteamlfcfillbjaaGreatRxs
import Derived.Test.YteamlfcfillbjaaGreatSk
namespace Go.Proofs.YteamlfcfillbjaaGreat
set_option linter.unusedVariables false
set_option linter.unusedSimpArgs false
set_option maxRecDepth 100000
open Go.RowKit
theorem scaled_bulk (r : Request) (n : Int) : (scaled r n).1.bulk ≤ r.bulk + 1 := multiplied_bulk _ _ _ r n
set_option maxRecDepth 100000 in
set_option maxHeartbeats 2000000 in
theorem iScaled_any (v : Value) (r : Request) (n : Int) (w : World) (h : RReq 16777216 w w.heap.size v r) (hbk : r.bulk ≤ 1048576) : Calls Tryz.prog 20 #[v, .int .i64 n] w (MReqB w (scaled r n).1 (scaled r n).2) := by
  have HR := Lib.hid h
  obtain ⟨A1, c1, A2, c2, A3, c3, rfl, _⟩ := h.opn
  have hS := (((Sit.here w).alloc #[.int .i64 r.way, .int .i64 r.pallet.w, .int .i64 r.pallet.d, .int .i64 r.pallet.h, .int .i64 r.pallet.gram, .int .i64 r.classes, .slice A1 r.pairs.length c1, .slice A2 r.types.length c2, .int .i64 r.master, .slice A3 r.items.length c3] 37).alloc #[.int .i64 n] 3).alloc #[.int .i64 0, .int .i64 0, .int .i64 0, .int .i64 0, .int .i64 0, .int .i64 0, .slice none 0 0, .slice none 0 0, .int .i64 0, .slice none 0 0] 37
  simp only [World.size_alloc] at hS
  have SN := Lib.hid hS
  clear h hS
  go_enter Tryz.func20, Tryz.ntmps20
  have k0 := SN.out.box (.tail _ (.tail _ (.head _)))
  have l0 := SN.out.boxlt (.tail _ (.tail _ (.head _)))
  have kn := SN.out.box (.tail _ (.head _))
  have ln := SN.out.boxlt (.tail _ (.head _))
  have knc := kn 0
  simp at knc
  have KN := Lib.hid (SN.out.on _ (.tail _ (.head _)))
  go_wp2_with fail
  refine (multiplied_any 49 50 51 #[.pointer (some ⟨w.heap.size + 1, 0, none⟩)] (Item.scaled n) (GType.scaled n) (Pallet.scaled n) _ r n _ (HR.out.next SN.out.low) hbk (fun a W => run_enter Tryz.func49 (by kernel_rfl) (by kernel_rfl) a W) (fun a W => run_enter Tryz.func50 (by kernel_rfl) (by kernel_rfl) a W) (fun a W => run_enter Tryz.func51 (by kernel_rfl) (by kernel_rfl) a W) ?_ ?_ ?_).mono ?_
  · intro W g m cc bs k xs fp x hb hbs ho hx
    have hkb := (hb.block (w.heap.size + 1) (by simp)).trans KN.out
    have hkc := cell_of_row _ _ 0 _ _ (0, 0) hkb
    exact scaled1_any n g m cc bs (w.heap.size + 1) k xs fp x W ho hx (by simpa using hkc) (fun hm => by have := (ho.lt _ hm).1; simp at hbs; omega)
  · intro W g m cc bs k xs fp x hb hbs ho hx
    have hkb := (hb.block (w.heap.size + 1) (by simp)).trans KN.out
    have hkc := cell_of_row _ _ 0 _ _ (0, 0) hkb
    exact scaled2_any n g m cc bs (w.heap.size + 1) k xs fp x W ho hx (by simpa using hkc) (fun hm => by have := (ho.lt _ hm).1; simp at hbs; omega)
  · intro W g q vp vt vi hb hg hh
    have hkb := (hb.block (w.heap.size + 1) (by simp)).trans KN.out
    have hkc := cell_of_row _ _ 0 _ _ (0, 0) hkb
    exact scaled3_any n g (w.heap.size + 1) q vp vt vi _ W hh (by simpa using hkc) (by simp at hg; omega)
  rintro e w1 ⟨v', fp, rfl, ho, hb⟩
  obtain ⟨p, hp⟩ : ∃ p, scaled r n = p := ⟨_, rfl⟩
  have HP := Lib.hid hp
  have hp' : multiplied (Item.scaled n) (GType.scaled n) (Pallet.scaled n) r n = p := hp
  rw [hp'] at ho ⊢
  obtain ⟨p, pb⟩ := p
  obtain ⟨D1, g1, D2, g2, D3, g3, rfl⟩ := ho.form
  have HO := Lib.hid ho
  have SN := Lib.hid (SN.out.next hb)
  clear k0 l0 kn ln knc ho hp hp' hb
  have k1 := SN.out.box (.head _)
  have fz := SN.out.free (.head _)
  have l1 := SN.out.boxlt (.head _)
  go_wp2
  refine bodyPost_ret (v := .tuple #[.agg #[.int .i64 p.way, .int .i64 p.pallet.w, .int .i64 p.pallet.d, .int .i64 p.pallet.h, .int .i64 p.pallet.gram, .int .i64 p.classes, .slice D1 p.pairs.length g1, .slice D2 p.types.length g2, .int .i64 p.master, .slice D3 p.items.length g3], .bool pb]) (by simp [results, Tryz.results20, go_sem, k1, fz]) rfl ?_
  rw [HP.out]
  exact mreqb_of (g := w.heap.size + 2) (us := [.int .i64 p.way, .int .i64 p.pallet.w, .int .i64 p.pallet.d, .int .i64 p.pallet.h, .int .i64 p.pallet.gram, .int .i64 p.classes, .slice D1 p.pairs.length g1, .slice D2 p.types.length g2, .int .i64 p.master, .slice D3 p.items.length g3]) SN.out.low HO.out (by simp; omega) (by omega) (.inl (by simp))
set_option maxRecDepth 100000 in
set_option maxHeartbeats 4000000 in
theorem sScaled_any (v : Value) (r : Request) (n : Int) (w : World) (h : RReq 16777216 w w.heap.size v r) (hbk : r.bulk ≤ 1048576) : Calls Tryz.prog 19 #[v, .int .i64 n] w (MReqB w (scaled r n).1 (scaled r n).2) := by
  have HR := Lib.hid h
  obtain ⟨A1, c1, A2, c2, A3, c3, rfl, ⟨_, H2, H3⟩, _, hl2, hl3, _⟩ := h.opn
  have hS := ((Sit.here w).alloc #[.int .i64 r.way, .int .i64 r.pallet.w, .int .i64 r.pallet.d, .int .i64 r.pallet.h, .int .i64 r.pallet.gram, .int .i64 r.classes, .slice A1 r.pairs.length c1, .slice A2 r.types.length c2, .int .i64 r.master, .slice A3 r.items.length c3] 37).alloc #[.int .i64 0, .int .i64 0, .int .i64 0, .int .i64 0, .int .i64 0, .int .i64 0, .slice none 0 0, .slice none 0 0, .int .i64 0, .slice none 0 0] 37
  simp only [World.size_alloc] at hS
  have SN := Lib.hid hS
  obtain ⟨bn, hbn⟩ : ∃ x, inB n 1 100 = x := ⟨_, rfl⟩
  have HBN := Lib.hid hbn
  obtain ⟨c, hc⟩ : ∃ c, classOf r = c := ⟨_, rfl⟩
  have hsc := sClass_any _ r _ h
  have HM := Lib.hid (show scaled r n = if (bn && decide (c = 0)) = true then (if soundR (timesReq (Item.scaled n) (GType.scaled n) (Pallet.scaled n) r) = true then (timesReq (Item.scaled n) (GType.scaled n) (Pallet.scaled n) r, true) else (r, false)) else (r, false) by rw [← hbn, ← hc, ← sound_class]; rfl)
  have HC := Lib.hid hc
  have HBK := Lib.hid hbk
  have hil : r.items.length ≤ 1048576 ∧ r.types.length ≤ 1048576 := by unfold Request.bulk at hbk; omega
  obtain ⟨hil, htl⟩ := hil
  clear h hS hbn hc hsc
  go_enter Tryz.func19, Tryz.ntmps19
  have k0 := SN.out.box (.tail _ (.head _))
  have l0 := SN.out.boxlt (.tail _ (.head _))
  go_wp2_with fail
  refine (l2Copy_any _ r _ (HR.out.next SN.out.low)).mono ?_
  rintro e w1 ⟨u, fp, rfl, ho, hb⟩
  obtain ⟨B1, d1, B2, d2, B3, d3, rfl⟩ := ho.form
  have hS := (SN.out.req hb ho).alloc #[.int .i64 r.way, .int .i64 r.pallet.w, .int .i64 r.pallet.d, .int .i64 r.pallet.h, .int .i64 r.pallet.gram, .int .i64 r.classes, .slice B1 r.pairs.length d1, .slice B2 r.types.length d2, .int .i64 r.master, .slice B3 r.items.length d3] 37
  simp only [World.size_alloc] at hS
  have SN := Lib.hid hS
  have HNW := Lib.hid (show w.heap.size + 2 ≤ w1.heap.size by have := hb.size; simp at this; omega)
  clear hS ho hb k0 l0
  have k0 := SN.out.box (.tail _ (.tail _ (.tail _ (.head _))))
  have l0 := SN.out.boxlt (.tail _ (.tail _ (.tail _ (.head _))))
  have k1 := SN.out.box (.head _)
  have l1 := SN.out.boxlt (.head _)
  have k2 := SN.out.box (.tail _ (.tail _ (.head _)))
  have fz := SN.out.free (.tail _ (.tail _ (.head _)))
  have l2 := SN.out.boxlt (.tail _ (.tail _ (.head _)))
  cases bn
  · go_wp2_with (go_at_call 43; refine (l1In_any n 1 100 _).mono ?_; rintro e w' ⟨rfl, rfl⟩; rw [HBN.out])
    refine bodyPost_ret (v := .tuple #[.agg #[.int .i64 r.way, .int .i64 r.pallet.w, .int .i64 r.pallet.d, .int .i64 r.pallet.h, .int .i64 r.pallet.gram, .int .i64 r.classes, .slice B1 r.pairs.length d1, .slice B2 r.types.length d2, .int .i64 r.master, .slice B3 r.items.length d3], .bool false]) (by simp [results, Tryz.results19, go_sem, k2, fz]) rfl ?_
    rw [HM.out]
    have hnw := HNW.out
    exact mreqb_of (w := w) (bb := false) (us := [.int .i64 r.way, .int .i64 r.pallet.w, .int .i64 r.pallet.d, .int .i64 r.pallet.h, .int .i64 r.pallet.gram, .int .i64 r.classes, .slice B1 r.pairs.length d1, .slice B2 r.types.length d2, .int .i64 r.master, .slice B3 r.items.length d3]) (g := w.heap.size + 1) SN.out.low (SN.out.own (.tail _ (.head _))) (by omega) (by omega) (.inl (by omega))
  · go_wp2_with (go_at_call 43; refine (l1In_any n 1 100 _).mono ?_; rintro e w' ⟨rfl, rfl⟩; rw [HBN.out])
    refine (sClass_any _ r _ (HR.out.next SN.out.low)).mono ?_
    rintro e w2 ⟨rfl, hb2⟩
    rw [HC.out]
    have SN := Lib.hid (SN.out.next hb2)
    clear k0 l0 k1 l1 k2 fz l2 hb2
    have k0 := SN.out.box (.tail _ (.tail _ (.tail _ (.head _))))
    have l0 := SN.out.boxlt (.tail _ (.tail _ (.tail _ (.head _))))
    have k1 := SN.out.box (.head _)
    have l1 := SN.out.boxlt (.head _)
    have k2 := SN.out.box (.tail _ (.tail _ (.head _)))
    have fz := SN.out.free (.tail _ (.tail _ (.head _)))
    have l2 := SN.out.boxlt (.tail _ (.tail _ (.head _)))
    by_cases hz : c = 0
    · subst hz
      have fz1 := SN.out.free (.head _)
      obtain ⟨f1, f2, f3, _, hS⟩ := SN.out.rot2.apartReq
      have SN := Lib.hid hS
      have hS := SN.out.rot4.store 1 (.int .i64 (wrap64 (n * r.pallet.w))) |>.store 2 (.int .i64 (wrap64 (n * r.pallet.d))) |>.store 3 (.int .i64 (wrap64 (n * r.pallet.h))) |>.store 4 (.int .i64 r.pallet.gram)
      simp only [List.setIfInBounds_toArray, List.set_cons_zero, List.set_cons_succ] at hS
      have SN := Lib.hid hS.ror4.rot2
      clear hS k2 fz l2
      go_wp2
      clear k0 l0 k1 l1 fz1
      have k0 := SN.out.box (.tail _ (.tail _ (.tail _ (.tail _ (.tail _ (.head _))))))
      have l0 := SN.out.boxlt (.tail _ (.tail _ (.tail _ (.tail _ (.tail _ (.head _))))))
      have k1 := SN.out.box (.tail _ (.tail _ (.tail _ (.head _))))
      have l1 := SN.out.boxlt (.tail _ (.tail _ (.tail _ (.head _))))
      go_loopw [7] (fun i wr => ∃ k : Nat, k ≤ r.types.length ∧ i = .int .i64 k ∧ Hid (Sit w wr [fOF GType.cells 67 7 (w.heap.size + 1 + 1) (.slice B2 r.types.length d2) (mapTo (GType.scaled n) k r.types) f2, fOF Pair.cells 81 2 (w.heap.size + 1 + 1) (.slice B1 r.pairs.length d1) r.pairs f1, fOF Item.cells 41 7 (w.heap.size + 1 + 1) (.slice B3 r.items.length d3) r.items f3, fBox w1.heap.size (({ r with pallet := (Pallet.scaled n) r.pallet } : Request).row (.slice B1 r.pairs.length d1) (.slice B2 r.types.length d2) (.slice B3 r.items.length d3)) 37, fBox (w.heap.size + 1) #[.int .i64 0, .int .i64 0, .int .i64 0, .int .i64 0, .int .i64 0, .int .i64 0, .slice none 0 0, .slice none 0 0, .int .i64 0, .slice none 0 0] 37, fBox w.heap.size #[.int .i64 r.way, .int .i64 r.pallet.w, .int .i64 r.pallet.d, .int .i64 r.pallet.h, .int .i64 r.pallet.gram, .int .i64 r.classes, .slice A1 r.pairs.length c1, .slice A2 r.types.length c2, .int .i64 r.master, .slice A3 r.items.length c3] 37])) (fun i _ => r.types.length - (intOf i).toNat)
      case atStart => exact ⟨0, Nat.zero_le _, rfl, Lib.hid (by rw [mapTo_zero]; exact SN.out)⟩
      case round =>
        clear SN k0 l0 k1 l1
        obtain ⟨k, hk, rfl, SN⟩ := hrel
        have k0 := SN.out.box (.tail _ (.tail _ (.tail _ (.tail _ (.tail _ (.head _))))))
        have l0 := SN.out.boxlt (.tail _ (.tail _ (.tail _ (.tail _ (.tail _ (.head _))))))
        have k1 := SN.out.box (.tail _ (.tail _ (.tail _ (.head _))))
        have l1 := SN.out.boxlt (.tail _ (.tail _ (.tail _ (.head _))))
        by_cases hlt : k < r.types.length
        · obtain ⟨g, rfl⟩ : ∃ g, B2 = some ⟨g, 0, none⟩ := by
            obtain ⟨g, c, hv, _⟩ := (SN.out.list (.head _)).block (by simp; omega)
            injection hv with hv1
            exact ⟨g, hv1⟩
          obtain ⟨b, off, x, _, heq, hb, hxk, _, hfx, hc⟩ := (H2.below (flat_mono _) SN.out.low).at_ k hlt
          cases heq
          cases hfx
          have hc1 := hc 1 _ rfl
          have hc2 := hc 2 _ rfl
          have hc3 := hc 3 _ rfl
          have hf := fun o => (SN.out.list (.head _)).free o
          have hrw := (SN.out.list (.head _)).1
          rw [mapTo_len] at hrw
          obtain ⟨o1, ho1⟩ := own_room hrw k 1 hlt (by omega)
          obtain ⟨o2, ho2⟩ := own_room hrw k 2 hlt (by omega)
          obtain ⟨o3, ho3⟩ := own_room hrw k 3 hlt (by omega)
          have hsz := (SN.out.list (.head _)).size
          have hgm := SN.out.apart
          simp only [List.pairwise_cons, List.mem_cons, forall_eq_or_imp] at hgm
          have hg1 : ¬ (g = w1.heap.size) := fun e => hgm.1.2.2.1 g hsz.2.1 (by simp [e])
          have hg3 : ¬ (g = w.heap.size) := by have := hsz.2.2.1; omega
          have hg5 : ¬ (g = b) := by have := hsz.2.2.1; omega
          have hg2 : ¬ (w1.heap.size = g) := fun e => hg1 e.symm
          have hg4 : ¬ (w.heap.size = g) := fun e => hg3 e.symm
          have hg6 : ¬ (b = g) := fun e => hg5 e.symm
          have k1c := k1 7
          have k0c := k0 7
          simp [Request.row] at k1c k0c
          have hP := SN.out.put (fun _ => rfl) (mapTo_get (F := (GType.scaled n)) hxk) (j := 1) (us := [.int .i64 (wrap64 (n * x.w)), .int .i64 (wrap64 (n * x.h)), .int .i64 (wrap64 (n * x.d))]) (y := (GType.scaled n) x) (by simp) rfl
          rw [mapTo_set hxk] at hP
          have SP := Lib.hid hP
          clear hP hc hsz hgm k0 l0 k1 l1 hxk SN hrw
          go_wp2
          go_region_held3 (fun W' => W'.cell? ⟨w1.heap.size, 7, none⟩ = some (.slice (some ⟨g, 0, none⟩) r.types.length d2) ∧ W'.cell? ⟨w.heap.size, 7, none⟩ = some (.slice (some ⟨b, off, none⟩) r.types.length c2) ∧ W'.cell? ⟨b, off + k * 7 + 1, none⟩ = some (.int .i64 x.w)) (go_keep) (fail)
          go_wp2
          go_region_held3 (fun W' => W'.cell? ⟨w1.heap.size, 7, none⟩ = some (.slice (some ⟨g, 0, none⟩) r.types.length d2) ∧ W'.cell? ⟨w.heap.size, 7, none⟩ = some (.slice (some ⟨b, off, none⟩) r.types.length c2) ∧ W'.cell? ⟨b, off + k * 7 + 2, none⟩ = some (.int .i64 x.h)) (go_keep) (fail)
          go_wp2
          go_region_held3 (fun W' => W'.cell? ⟨w1.heap.size, 7, none⟩ = some (.slice (some ⟨g, 0, none⟩) r.types.length d2) ∧ W'.cell? ⟨w.heap.size, 7, none⟩ = some (.slice (some ⟨b, off, none⟩) r.types.length c2) ∧ W'.cell? ⟨b, off + k * 7 + 3, none⟩ = some (.int .i64 x.d)) (go_keep) (fail)
          go_wp2
          go_roundw
          case rel => exact ⟨k + 1, hlt, by go_num, Lib.hid SP.out.drew.drew.drew⟩
          case measure => simp [intOf]; omega
        · obtain rfl : k = r.types.length := by omega
          rw [mapTo_all] at SN
          have SN := Lib.hid SN.out.rot2.rot3
          clear k0 l0 k1 l1
          have k0 := SN.out.box (.tail _ (.tail _ (.tail _ (.tail _ (.tail _ (.head _))))))
          have l0 := SN.out.boxlt (.tail _ (.tail _ (.tail _ (.tail _ (.tail _ (.head _))))))
          have k1 := SN.out.box (.tail _ (.tail _ (.tail _ (.head _))))
          have l1 := SN.out.boxlt (.tail _ (.tail _ (.tail _ (.head _))))
          go_wp2
          go_loopw [8] (fun i wr => ∃ k : Nat, k ≤ r.items.length ∧ i = .int .i64 k ∧ Hid (Sit w wr [fOF Item.cells 41 7 (w.heap.size + 1 + 1) (.slice B3 r.items.length d3) (mapTo (Item.scaled n) k r.items) f3, fOF Pair.cells 81 2 (w.heap.size + 1 + 1) (.slice B1 r.pairs.length d1) r.pairs f1, fOF GType.cells 67 7 (w.heap.size + 1 + 1) (.slice B2 r.types.length d2) (r.types.map (GType.scaled n)) f2, fBox w1.heap.size (({ r with pallet := (Pallet.scaled n) r.pallet } : Request).row (.slice B1 r.pairs.length d1) (.slice B2 r.types.length d2) (.slice B3 r.items.length d3)) 37, fBox (w.heap.size + 1) #[.int .i64 0, .int .i64 0, .int .i64 0, .int .i64 0, .int .i64 0, .int .i64 0, .slice none 0 0, .slice none 0 0, .int .i64 0, .slice none 0 0] 37, fBox w.heap.size #[.int .i64 r.way, .int .i64 r.pallet.w, .int .i64 r.pallet.d, .int .i64 r.pallet.h, .int .i64 r.pallet.gram, .int .i64 r.classes, .slice A1 r.pairs.length c1, .slice A2 r.types.length c2, .int .i64 r.master, .slice A3 r.items.length c3] 37])) (fun i _ => r.items.length - (intOf i).toNat)
          case atStart => exact ⟨0, Nat.zero_le _, rfl, Lib.hid (by rw [mapTo_zero]; exact SN.out)⟩
          case round =>
            clear SN k0 l0 k1 l1
            obtain ⟨k, hk, rfl, SN⟩ := hrel
            have k0 := SN.out.box (.tail _ (.tail _ (.tail _ (.tail _ (.tail _ (.head _))))))
            have l0 := SN.out.boxlt (.tail _ (.tail _ (.tail _ (.tail _ (.tail _ (.head _))))))
            have k1 := SN.out.box (.tail _ (.tail _ (.tail _ (.head _))))
            have l1 := SN.out.boxlt (.tail _ (.tail _ (.tail _ (.head _))))
            by_cases hlt : k < r.items.length
            · obtain ⟨g, rfl⟩ : ∃ g, B3 = some ⟨g, 0, none⟩ := by
                obtain ⟨g, c, hv, _⟩ := (SN.out.list (.head _)).block (by simp; omega)
                injection hv with hv1
                exact ⟨g, hv1⟩
              obtain ⟨b, off, x, _, heq, hb, hxk, _, hfx, hc⟩ := (H3.below (flat_mono _) SN.out.low).at_ k hlt
              cases heq
              cases hfx
              have hc1 := hc 1 _ rfl
              have hc2 := hc 2 _ rfl
              have hc3 := hc 3 _ rfl
              have hf := fun o => (SN.out.list (.head _)).free o
              have hrw := (SN.out.list (.head _)).1
              rw [mapTo_len] at hrw
              obtain ⟨o1, ho1⟩ := own_room hrw k 1 hlt (by omega)
              obtain ⟨o2, ho2⟩ := own_room hrw k 2 hlt (by omega)
              obtain ⟨o3, ho3⟩ := own_room hrw k 3 hlt (by omega)
              have hsz := (SN.out.list (.head _)).size
              have hgm := SN.out.apart
              simp only [List.pairwise_cons, List.mem_cons, forall_eq_or_imp] at hgm
              have hg1 : ¬ (g = w1.heap.size) := fun e => hgm.1.2.2.1 g hsz.2.1 (by simp [e])
              have hg3 : ¬ (g = w.heap.size) := by have := hsz.2.2.1; omega
              have hg5 : ¬ (g = b) := by have := hsz.2.2.1; omega
              have hg2 : ¬ (w1.heap.size = g) := fun e => hg1 e.symm
              have hg4 : ¬ (w.heap.size = g) := fun e => hg3 e.symm
              have hg6 : ¬ (b = g) := fun e => hg5 e.symm
              have k1c := k1 9
              have k0c := k0 9
              simp [Request.row] at k1c k0c
              have hP := SN.out.put (fun _ => rfl) (mapTo_get (F := (Item.scaled n)) hxk) (j := 1) (us := [.int .i64 (wrap64 (n * x.w)), .int .i64 (wrap64 (n * x.h)), .int .i64 (wrap64 (n * x.d))]) (y := (Item.scaled n) x) (by simp) rfl
              rw [mapTo_set hxk] at hP
              have SP := Lib.hid hP
              clear hP hc hsz hgm k0 l0 k1 l1 hxk SN hrw
              go_wp2
              go_region_held3 (fun W' => W'.cell? ⟨w1.heap.size, 9, none⟩ = some (.slice (some ⟨g, 0, none⟩) r.items.length d3) ∧ W'.cell? ⟨w.heap.size, 9, none⟩ = some (.slice (some ⟨b, off, none⟩) r.items.length c3) ∧ W'.cell? ⟨b, off + k * 7 + 1, none⟩ = some (.int .i64 x.w)) (go_keep) (fail)
              go_wp2
              go_region_held3 (fun W' => W'.cell? ⟨w1.heap.size, 9, none⟩ = some (.slice (some ⟨g, 0, none⟩) r.items.length d3) ∧ W'.cell? ⟨w.heap.size, 9, none⟩ = some (.slice (some ⟨b, off, none⟩) r.items.length c3) ∧ W'.cell? ⟨b, off + k * 7 + 2, none⟩ = some (.int .i64 x.h)) (go_keep) (fail)
              go_wp2
              go_region_held3 (fun W' => W'.cell? ⟨w1.heap.size, 9, none⟩ = some (.slice (some ⟨g, 0, none⟩) r.items.length d3) ∧ W'.cell? ⟨w.heap.size, 9, none⟩ = some (.slice (some ⟨b, off, none⟩) r.items.length c3) ∧ W'.cell? ⟨b, off + k * 7 + 3, none⟩ = some (.int .i64 x.d)) (go_keep) (fail)
              go_wp2
              go_roundw
              case rel => exact ⟨k + 1, hlt, by go_num, Lib.hid SP.out.drew.drew.drew⟩
              case measure => simp [intOf]; omega
            · obtain rfl : k = r.items.length := by omega
              rw [mapTo_all] at SN
              have SN := Lib.hid SN.out.ror3
              clear k0 l0 k1 l1
              obtain ⟨q, hq⟩ : ∃ q, timesReq (Item.scaled n) (GType.scaled n) (Pallet.scaled n) r = q := ⟨_, rfl⟩
              have hS : Sit w wr [fReq (w.heap.size + 1 + 1) (.agg (q.row (.slice B1 r.pairs.length d1) (.slice B2 r.types.length d2) (.slice B3 r.items.length d3))) q (f1 ++ (f2 ++ f3)), fBox w1.heap.size (q.row (.slice B1 r.pairs.length d1) (.slice B2 r.types.length d2) (.slice B3 r.items.length d3)) 37, fBox (w.heap.size + 1) #[.int .i64 0, .int .i64 0, .int .i64 0, .int .i64 0, .int .i64 0, .int .i64 0, .slice none 0 0, .slice none 0 0, .int .i64 0, .slice none 0 0] 37, fBox w.heap.size #[.int .i64 r.way, .int .i64 r.pallet.w, .int .i64 r.pallet.d, .int .i64 r.pallet.h, .int .i64 r.pallet.gram, .int .i64 r.classes, .slice A1 r.pairs.length c1, .slice A2 r.types.length c2, .int .i64 r.master, .slice A3 r.items.length c3] 37] := by rw [← hq]; exact Sit.joinReq (r := timesReq (Item.scaled n) (GType.scaled n) (Pallet.scaled n) r) SN.out
              have HM2 := Lib.hid (show scaled r n = if soundR q = true then (q, true) else (r, false) by rw [HM.out, hq]; rfl)
              have hqb : q.bulk ≤ 16777216 := by rw [← hq, timesReq_bulk]; have := HBK.out; omega
              have SN := Lib.hid hS
              have HQB := Lib.hid hqb
              clear hS hq hqb
              have k1 := SN.out.box (.tail _ (.head _))
              have l1 := SN.out.boxlt (.tail _ (.head _))
              have k0 := SN.out.box (.tail _ (.tail _ (.tail _ (.head _))))
              have l0 := SN.out.boxlt (.tail _ (.tail _ (.tail _ (.head _))))
              go_wp2_with fail
              refine (l26Ends_any _ _ r q _ (HR.out.next SN.out.low) ((SN.out.own (.head _)).read HQB.out)).mono ?_
              rintro e w8 ⟨v', rfl, hb2, hv⟩
              have hO : ∃ b fp2, OReq w8 b v' (scaled r n).1 fp2 ∧ w.heap.size + 2 ≤ b ∧ soundR q = (scaled r n).2 := by
                rw [HM2.out]
                rcases hv with ⟨hs, rfl⟩ | ⟨hs, fp2, ho⟩
                · rw [if_pos hs]
                  exact ⟨_, _, (SN.out.next hb2).own (.head _), by omega, hs⟩
                · rw [if_neg (by simp [hs])]
                  exact ⟨_, _, ho, by have := HNW.out; have := SN.out.boxlt (.tail _ (.tail _ (.head _))); omega, hs⟩
              clear hv
              obtain ⟨b, fp2, ho, hbb, hsq⟩ := hO
              rw [hsq]
              obtain ⟨p, hp⟩ : ∃ p, scaled r n = p := ⟨_, rfl⟩
              have HPM := Lib.hid hp
              rw [hp] at ho ⊢
              obtain ⟨p, pb⟩ := p
              obtain ⟨D1, g1, D2, g2, D3, g3, rfl⟩ := ho.form
              have HO := Lib.hid ho
              have SN := Lib.hid (SN.out.next hb2)
              have HBB := Lib.hid hbb
              clear k0 l0 k1 l1 ho hsq hp hb2 hbb
              have k1 := SN.out.box (.tail _ (.tail _ (.head _)))
              have fz := SN.out.free (.tail _ (.tail _ (.head _)))
              have l1 := SN.out.boxlt (.tail _ (.tail _ (.head _)))
              go_wp2
              refine bodyPost_ret (v := .tuple #[.agg #[.int .i64 p.way, .int .i64 p.pallet.w, .int .i64 p.pallet.d, .int .i64 p.pallet.h, .int .i64 p.pallet.gram, .int .i64 p.classes, .slice D1 p.pairs.length g1, .slice D2 p.types.length g2, .int .i64 p.master, .slice D3 p.items.length g3], .bool pb]) (by simp [results, Tryz.results19, go_sem, k1, fz]) rfl ?_
              rw [HPM.out]
              exact mreqb_of (g := w.heap.size + 1) (us := [.int .i64 p.way, .int .i64 p.pallet.w, .int .i64 p.pallet.d, .int .i64 p.pallet.h, .int .i64 p.pallet.gram, .int .i64 p.classes, .slice D1 p.pairs.length g1, .slice D2 p.types.length g2, .int .i64 p.master, .slice D3 p.items.length g3]) SN.out.low HO.out (by have := HBB.out; omega) (by omega) (.inl (by have := HBB.out; omega))
    · have hz' : (c != 0) = true := by simpa using hz
      have HMF := Lib.hid (show scaled r n = (r, false) by rw [HM.out]; simp [hz])
      clear hz
      go_wp2
      refine bodyPost_ret (v := .tuple #[.agg #[.int .i64 r.way, .int .i64 r.pallet.w, .int .i64 r.pallet.d, .int .i64 r.pallet.h, .int .i64 r.pallet.gram, .int .i64 r.classes, .slice B1 r.pairs.length d1, .slice B2 r.types.length d2, .int .i64 r.master, .slice B3 r.items.length d3], .bool false]) (by simp [results, Tryz.results19, go_sem, k2, fz]) rfl ?_
      rw [HMF.out]
      have hnw := HNW.out
      exact mreqb_of (w := w) (bb := false) (us := [.int .i64 r.way, .int .i64 r.pallet.w, .int .i64 r.pallet.d, .int .i64 r.pallet.h, .int .i64 r.pallet.gram, .int .i64 r.classes, .slice B1 r.pairs.length d1, .slice B2 r.types.length d2, .int .i64 r.master, .slice B3 r.items.length d3]) (g := w.heap.size + 1) SN.out.low (SN.out.own (.tail _ (.head _))) (by omega) (by omega) (.inl (by omega))
end Go.Proofs.YteamlfcfillbjaaGreat
