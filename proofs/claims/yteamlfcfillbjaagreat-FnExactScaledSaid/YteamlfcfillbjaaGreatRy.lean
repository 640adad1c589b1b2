/-
  impl.multiplied (Scaled, Heavier).
-/
import Derived.Test.YteamlfcfillbjaaGreatRx
namespace Go.Proofs.YteamlfcfillbjaaGreat
set_option linter.unusedVariables false
set_option linter.unusedSimpArgs false
set_option maxRecDepth 100000
open Go.RowKit
set_option maxRecDepth 100000 in
set_option maxHeartbeats 1000000 in
theorem multiplied_any (fnI fnT fnP : FuncId) (cap : Array Value) (fi : Item → Item) (ft : GType → GType) (fl : Pallet → Pallet) (v : Value) (r : Request) (n : Int) (w : World) (h : RReq 16777216 w w.heap.size v r) (hbk : r.bulk ≤ 1048576)
    (hrI : ∀ args W, (callFunc fnI args).run Tryz.prog W = .ok (.enter fnI args) W) (hrT : ∀ args W, (callFunc fnT args).run Tryz.prog W = .ok (.enter fnT args) W) (hrP : ∀ args W, (callFunc fnP args).run Tryz.prog W = .ok (.enter fnP args) W)
    (hI : ∀ (W : World) (g m c bs k : Nat) (xs : List Item) (fp : List Nat) (x : Item), Below w.heap.size w W → w.heap.size ≤ bs → OF Item.cells 41 7 W bs (.slice (some ⟨g, 0, none⟩) m c) xs fp → xs[k]? = some x → Calls Tryz.prog fnI (#[.pointer (some ⟨g, k * 7, none⟩)] ++ cap) W (PutPost Item.cells 41 7 W bs (.slice (some ⟨g, 0, none⟩) m c) (xs.set k (fi x)) fp))
    (hT : ∀ (W : World) (g m c bs k : Nat) (xs : List GType) (fp : List Nat) (x : GType), Below w.heap.size w W → w.heap.size ≤ bs → OF GType.cells 67 7 W bs (.slice (some ⟨g, 0, none⟩) m c) xs fp → xs[k]? = some x → Calls Tryz.prog fnT (#[.pointer (some ⟨g, k * 7, none⟩)] ++ cap) W (PutPost GType.cells 67 7 W bs (.slice (some ⟨g, 0, none⟩) m c) (xs.set k (ft x)) fp))
    (hP : ∀ (W : World) (g : Nat) (q : Request) (vp vt vi : Value), Below w.heap.size w W → w.heap.size ≤ g → W.heap[g]? = some (.cells (q.row vp vt vi) 37 (0, 0)) → Calls Tryz.prog fnP (#[.pointer (some ⟨g, 1, none⟩)] ++ cap) W (PalPost W g ({ q with pallet := fl q.pallet }.row vp vt vi) 37)) :
    Calls Tryz.prog 45 #[v, .int .i64 n, .func (.func fnI) #[] cap, .func (.func fnT) #[] cap, .func (.func fnP) #[] cap] w (MReqB w (multiplied fi ft fl r n).1 (multiplied fi ft fl r n).2) := by
  have HR := Lib.hid h
  obtain ⟨A1, c1, A2, c2, A3, c3, rfl, _⟩ := h.opn
  have hS := ((Sit.here w).alloc #[.int .i64 r.way, .int .i64 r.pallet.w, .int .i64 r.pallet.d, .int .i64 r.pallet.h, .int .i64 r.pallet.gram, .int .i64 r.classes, .slice A1 r.pairs.length c1, .slice A2 r.types.length c2, .int .i64 r.master, .slice A3 r.items.length c3] 37).alloc #[.int .i64 0, .int .i64 0, .int .i64 0, .int .i64 0, .int .i64 0, .int .i64 0, .slice none 0 0, .slice none 0 0, .int .i64 0, .slice none 0 0] 37
  simp only [World.size_alloc] at hS
  have SN := Lib.hid hS
  obtain ⟨bn, hbn⟩ : ∃ x, inB n 1 100 = x := ⟨_, rfl⟩
  obtain ⟨bs, hbs⟩ : ∃ x, soundR r = x := ⟨_, rfl⟩
  have HBN := Lib.hid hbn
  have HBS := Lib.hid hbs
  have HM := Lib.hid (show multiplied fi ft fl r n = if (bn && bs) = true then (if soundR (timesReq fi ft fl r) = true then (timesReq fi ft fl r, true) else (r, false)) else (r, false) by rw [← hbn, ← hbs]; rfl)
  have HI := Lib.hid hI
  have HT := Lib.hid hT
  have HP := Lib.hid hP
  have hil : r.items.length ≤ 1048576 ∧ r.types.length ≤ 1048576 := by unfold Request.bulk at hbk; omega
  have HTB := Lib.hid (show (timesReq fi ft fl r).bulk ≤ 16777216 by rw [timesReq_bulk]; omega)
  obtain ⟨hil, htl⟩ := hil
  have HBK := Lib.hid hbk
  clear h hS hbn hbs hI hT hP hbk
  go_enter Tryz.func45, Tryz.ntmps45
  have k0 := SN.out.box (.tail _ (.head _))
  have l0 := SN.out.boxlt (.tail _ (.head _))
  go_wp2_with fail
  refine (cloneRequest_any _ r _ (HR.out.next SN.out.low)).mono ?_
  rintro e w1 ⟨u, fp, rfl, ho, hb⟩
  obtain ⟨B1, d1, B2, d2, B3, d3, rfl⟩ := ho.form
  have hS := (SN.out.req hb ho).alloc #[.int .i64 r.way, .int .i64 r.pallet.w, .int .i64 r.pallet.d, .int .i64 r.pallet.h, .int .i64 r.pallet.gram, .int .i64 r.classes, .slice B1 r.pairs.length d1, .slice B2 r.types.length d2, .int .i64 r.master, .slice B3 r.items.length d3] 37
  simp only [World.size_alloc] at hS
  have SN := Lib.hid hS
  have HNW := Lib.hid (show w.heap.size + 2 ≤ w1.heap.size by have := hb.size; simp at this; omega)
  have hsc := sound_any _ r _ (HR.out.next hS.low)
  rw [HBS.out] at hsc
  have HSC := Lib.hid hsc
  clear hS ho hb k0 l0 hsc
  have k0 := SN.out.box (.tail _ (.tail _ (.tail _ (.head _))))
  have l0 := SN.out.boxlt (.tail _ (.tail _ (.tail _ (.head _))))
  have k1 := SN.out.box (.head _)
  have l1 := SN.out.boxlt (.head _)
  have k2 := SN.out.box (.tail _ (.tail _ (.head _)))
  have f2' := SN.out.free (.tail _ (.tail _ (.head _)))
  have l2 := SN.out.boxlt (.tail _ (.tail _ (.head _)))
  cases bn
  · go_wp2_with (go_at_call 68; refine (in_any n 1 100 _).mono ?_; rintro e w' ⟨rfl, rfl⟩; rw [HBN.out])
    refine bodyPost_ret (v := .tuple #[.agg #[.int .i64 r.way, .int .i64 r.pallet.w, .int .i64 r.pallet.d, .int .i64 r.pallet.h, .int .i64 r.pallet.gram, .int .i64 r.classes, .slice B1 r.pairs.length d1, .slice B2 r.types.length d2, .int .i64 r.master, .slice B3 r.items.length d3], .bool false]) (by simp [results, Tryz.results45, go_sem, k2, f2']) rfl ?_
    rw [HM.out]
    have hnw := HNW.out
    exact mreqb_of (w := w) (bb := false) (us := [.int .i64 r.way, .int .i64 r.pallet.w, .int .i64 r.pallet.d, .int .i64 r.pallet.h, .int .i64 r.pallet.gram, .int .i64 r.classes, .slice B1 r.pairs.length d1, .slice B2 r.types.length d2, .int .i64 r.master, .slice B3 r.items.length d3]) (g := w.heap.size + 1) SN.out.low (SN.out.own (.tail _ (.head _))) (by omega) (by omega) (.inl (by omega))
  · go_wp2_with (go_at_call 68; refine (in_any n 1 100 _).mono ?_; rintro e w' ⟨rfl, rfl⟩; rw [HBN.out])
    refine HSC.out.mono ?_
    rintro e w2 ⟨rfl, hb2⟩
    have SN := Lib.hid (SN.out.next hb2)
    clear k0 l0 k1 l1 k2 f2' l2 HSC hb2
    have k0 := SN.out.box (.tail _ (.tail _ (.tail _ (.head _))))
    have l0 := SN.out.boxlt (.tail _ (.tail _ (.tail _ (.head _))))
    have k1 := SN.out.box (.head _)
    have l1 := SN.out.boxlt (.head _)
    have k2 := SN.out.box (.tail _ (.tail _ (.head _)))
    have f2' := SN.out.free (.tail _ (.tail _ (.head _)))
    have l2 := SN.out.boxlt (.tail _ (.tail _ (.head _)))
    cases bs
    · go_wp2
      refine bodyPost_ret (v := .tuple #[.agg #[.int .i64 r.way, .int .i64 r.pallet.w, .int .i64 r.pallet.d, .int .i64 r.pallet.h, .int .i64 r.pallet.gram, .int .i64 r.classes, .slice B1 r.pairs.length d1, .slice B2 r.types.length d2, .int .i64 r.master, .slice B3 r.items.length d3], .bool false]) (by simp [results, Tryz.results45, go_sem, k2, f2']) rfl ?_
      rw [HM.out]
      have hnw := HNW.out
      exact mreqb_of (w := w) (bb := false) (us := [.int .i64 r.way, .int .i64 r.pallet.w, .int .i64 r.pallet.d, .int .i64 r.pallet.h, .int .i64 r.pallet.gram, .int .i64 r.classes, .slice B1 r.pairs.length d1, .slice B2 r.types.length d2, .int .i64 r.master, .slice B3 r.items.length d3]) (g := w.heap.size + 1) SN.out.low (SN.out.own (.tail _ (.head _))) (by omega) (by omega) (.inl (by omega))
    · obtain ⟨f1, f2, f3, _, hS⟩ := SN.out.rot2.apartReq
      have SN := Lib.hid hS.rot3
      clear hS k2 f2' l2 k0 l0
      go_wp2
      go_loopw [29] (fun i wr => ∃ k : Nat, k ≤ r.items.length ∧ i = .int .i64 k ∧ Hid (Sit w wr [fOF Item.cells 41 7 (w.heap.size + 2) (.slice B3 r.items.length d3) (mapTo fi k r.items) f3, fOF Pair.cells 81 2 (w.heap.size + 2) (.slice B1 r.pairs.length d1) r.pairs f1, fOF GType.cells 67 7 (w.heap.size + 2) (.slice B2 r.types.length d2) (r.types) f2, fBox w1.heap.size #[.int .i64 r.way, .int .i64 r.pallet.w, .int .i64 r.pallet.d, .int .i64 r.pallet.h, .int .i64 r.pallet.gram, .int .i64 r.classes, .slice B1 r.pairs.length d1, .slice B2 r.types.length d2, .int .i64 r.master, .slice B3 r.items.length d3] 37, fBox (w.heap.size + 1) #[.int .i64 0, .int .i64 0, .int .i64 0, .int .i64 0, .int .i64 0, .int .i64 0, .slice none 0 0, .slice none 0 0, .int .i64 0, .slice none 0 0] 37, fBox w.heap.size #[.int .i64 r.way, .int .i64 r.pallet.w, .int .i64 r.pallet.d, .int .i64 r.pallet.h, .int .i64 r.pallet.gram, .int .i64 r.classes, .slice A1 r.pairs.length c1, .slice A2 r.types.length c2, .int .i64 r.master, .slice A3 r.items.length c3] 37])) (fun i _ => r.items.length - (intOf i).toNat)
      case atStart => exact ⟨0, Nat.zero_le _, rfl, Lib.hid (by rw [mapTo_zero]; exact SN.out)⟩
      case round =>
        clear k1 l1 SN
        obtain ⟨k, hk, rfl, SN⟩ := hrel
        have k1 := SN.out.box (.tail _ (.tail _ (.tail _ (.head _))))
        have l1 := SN.out.boxlt (.tail _ (.tail _ (.tail _ (.head _))))
        by_cases hlt : k < r.items.length
        · obtain ⟨g3, rfl⟩ : ∃ g, B3 = some ⟨g, 0, none⟩ := by
            obtain ⟨g, c, hv, _⟩ := (SN.out.list (.head _)).block (by simp; omega)
            injection hv with hv1
            exact ⟨g, hv1⟩
          obtain ⟨x, hx⟩ : ∃ x, r.items[k]? = some x := ⟨_, List.getElem?_eq_getElem hlt⟩
          have HX := Lib.hid hx
          clear hx
          go_wp2_with fail
          refine (HI.out _ g3 _ _ _ k _ _ _ SN.out.low (by omega) (SN.out.list (.head _)) (mapTo_get HX.out)).mono ?_
          rintro e w3 ⟨rfl, ho, ht⟩
          rw [mapTo_set HX.out] at ho
          have SN := Lib.hid (SN.out.grow ht (fOF Item.cells 41 7 (w.heap.size + 2) (.slice (some ⟨g3, 0, none⟩) r.items.length d3) (mapTo fi (k + 1) r.items) f3) (fun b hb => .inl hb) (fOF_ok _ _ _ _ _ _ _) ho)
          clear ho ht k1 l1
          go_wp2
          go_roundw
          case rel => exact ⟨k + 1, hlt, by go_num, SN⟩
          case measure => simp [intOf]; omega
        · obtain rfl : k = r.items.length := by omega
          rw [mapTo_all] at SN
          have SN := Lib.hid SN.out.rot3
          clear k1 l1
          have k1 := SN.out.box (.tail _ (.tail _ (.tail _ (.head _))))
          have l1 := SN.out.boxlt (.tail _ (.tail _ (.tail _ (.head _))))
          go_wp2
          go_loopw [42] (fun i wr => ∃ k : Nat, k ≤ r.types.length ∧ i = .int .i64 k ∧ Hid (Sit w wr [fOF GType.cells 67 7 (w.heap.size + 2) (.slice B2 r.types.length d2) (mapTo ft k r.types) f2, fOF Item.cells 41 7 (w.heap.size + 2) (.slice B3 r.items.length d3) (r.items.map fi) f3, fOF Pair.cells 81 2 (w.heap.size + 2) (.slice B1 r.pairs.length d1) r.pairs f1, fBox w1.heap.size #[.int .i64 r.way, .int .i64 r.pallet.w, .int .i64 r.pallet.d, .int .i64 r.pallet.h, .int .i64 r.pallet.gram, .int .i64 r.classes, .slice B1 r.pairs.length d1, .slice B2 r.types.length d2, .int .i64 r.master, .slice B3 r.items.length d3] 37, fBox (w.heap.size + 1) #[.int .i64 0, .int .i64 0, .int .i64 0, .int .i64 0, .int .i64 0, .int .i64 0, .slice none 0 0, .slice none 0 0, .int .i64 0, .slice none 0 0] 37, fBox w.heap.size #[.int .i64 r.way, .int .i64 r.pallet.w, .int .i64 r.pallet.d, .int .i64 r.pallet.h, .int .i64 r.pallet.gram, .int .i64 r.classes, .slice A1 r.pairs.length c1, .slice A2 r.types.length c2, .int .i64 r.master, .slice A3 r.items.length c3] 37])) (fun i _ => r.types.length - (intOf i).toNat)
          case atStart => exact ⟨0, Nat.zero_le _, rfl, Lib.hid (by rw [mapTo_zero]; exact SN.out)⟩
          case round =>
            clear k1 l1 SN
            obtain ⟨k, hk, rfl, SN⟩ := hrel
            have k1 := SN.out.box (.tail _ (.tail _ (.tail _ (.head _))))
            have l1 := SN.out.boxlt (.tail _ (.tail _ (.tail _ (.head _))))
            by_cases hlt : k < r.types.length
            · obtain ⟨g3, rfl⟩ : ∃ g, B2 = some ⟨g, 0, none⟩ := by
                obtain ⟨g, c, hv, _⟩ := (SN.out.list (.head _)).block (by simp; omega)
                injection hv with hv1
                exact ⟨g, hv1⟩
              obtain ⟨x, hx⟩ : ∃ x, r.types[k]? = some x := ⟨_, List.getElem?_eq_getElem hlt⟩
              have HX := Lib.hid hx
              clear hx
              go_wp2_with fail
              refine (HT.out _ g3 _ _ _ k _ _ _ SN.out.low (by omega) (SN.out.list (.head _)) (mapTo_get HX.out)).mono ?_
              rintro e w3 ⟨rfl, ho, ht⟩
              rw [mapTo_set HX.out] at ho
              have SN := Lib.hid (SN.out.grow ht (fOF GType.cells 67 7 (w.heap.size + 2) (.slice (some ⟨g3, 0, none⟩) r.types.length d2) (mapTo ft (k + 1) r.types) f2) (fun b hb => .inl hb) (fOF_ok _ _ _ _ _ _ _) ho)
              clear ho ht k1 l1
              go_wp2
              go_roundw
              case rel => exact ⟨k + 1, hlt, by go_num, SN⟩
              case measure => simp [intOf]; omega
            · obtain rfl : k = r.types.length := by omega
              rw [mapTo_all] at SN
              have SN := Lib.hid SN.out.rot4
              clear k1 l1
              have k1 := SN.out.box (.head _)
              have l1 := SN.out.boxlt (.head _)
              have hnw := HNW.out
              go_wp2_with fail
              refine (HP.out _ w1.heap.size r _ _ _ SN.out.low (by omega) (SN.out.on _ (.head _))).mono ?_
              rintro e w3 ⟨rfl, ho, ht⟩
              have hS := SN.out.grow ht (fBox w1.heap.size ((timesReq fi ft fl r).row (.slice B1 r.pairs.length d1) (.slice B2 r.types.length d2) (.slice B3 r.items.length d3)) 37) (fun b hb => .inl hb) (fBox_ok _ _ _) ho
              have SN := Lib.hid hS.ror4.rot3
              clear hS ho ht k1 l1 hnw
              obtain ⟨q, hq⟩ : ∃ q, timesReq fi ft fl r = q := ⟨_, rfl⟩
              have hS : Sit w w3 [fReq (w.heap.size + 1 + 1) (.agg (q.row (.slice B1 r.pairs.length d1) (.slice B2 r.types.length d2) (.slice B3 r.items.length d3))) q (f1 ++ (f2 ++ f3)), fBox w1.heap.size (q.row (.slice B1 r.pairs.length d1) (.slice B2 r.types.length d2) (.slice B3 r.items.length d3)) 37, fBox (w.heap.size + 1) #[.int .i64 0, .int .i64 0, .int .i64 0, .int .i64 0, .int .i64 0, .int .i64 0, .slice none 0 0, .slice none 0 0, .int .i64 0, .slice none 0 0] 37, fBox w.heap.size #[.int .i64 r.way, .int .i64 r.pallet.w, .int .i64 r.pallet.d, .int .i64 r.pallet.h, .int .i64 r.pallet.gram, .int .i64 r.classes, .slice A1 r.pairs.length c1, .slice A2 r.types.length c2, .int .i64 r.master, .slice A3 r.items.length c3] 37] := by rw [← hq]; exact Sit.joinReq (r := timesReq fi ft fl r) SN.out
              have HM2 := Lib.hid (show multiplied fi ft fl r n = if soundR q = true then (q, true) else (r, false) by rw [HM.out, hq]; rfl)
              have hqb : q.bulk ≤ 16777216 := by rw [← hq, timesReq_bulk]; have := HBK.out; omega
              have SN := Lib.hid hS
              have HQB := Lib.hid hqb
              clear hS hq hqb
              have k1 := SN.out.box (.tail _ (.head _))
              have l1 := SN.out.boxlt (.tail _ (.head _))
              have k0 := SN.out.box (.tail _ (.tail _ (.tail _ (.head _))))
              have l0 := SN.out.boxlt (.tail _ (.tail _ (.tail _ (.head _))))
              go_wp2_with fail
              refine (changed_any _ _ r q _ (HR.out.next SN.out.low) ((SN.out.own (.head _)).read HQB.out)).mono ?_
              rintro e w8 ⟨v', rfl, hb2, hv⟩
              have hO : ∃ b fp2, OReq w8 b v' (multiplied fi ft fl r n).1 fp2 ∧ w.heap.size + 2 ≤ b ∧ soundR q = (multiplied fi ft fl r n).2 := by
                rw [HM2.out]
                rcases hv with ⟨hs, rfl⟩ | ⟨hs, fp2, ho⟩
                · rw [if_pos hs]
                  exact ⟨_, _, (SN.out.next hb2).own (.head _), by omega, hs⟩
                · rw [if_neg (by simp [hs])]
                  exact ⟨_, _, ho, by have := HNW.out; have := SN.out.boxlt (.tail _ (.tail _ (.head _))); omega, hs⟩
              clear hv
              obtain ⟨b, fp2, ho, hbb, hsq⟩ := hO
              rw [hsq]
              obtain ⟨p, hp⟩ : ∃ p, multiplied fi ft fl r n = p := ⟨_, rfl⟩
              have HPM := Lib.hid hp
              rw [hp] at ho ⊢
              obtain ⟨p, pb⟩ := p
              obtain ⟨D1, g1, D2, g2, D3, g3, rfl⟩ := ho.form
              have HO := Lib.hid ho
              have SN := Lib.hid (SN.out.next hb2)
              have HBB := Lib.hid hbb
              clear k0 l0 k1 l1 ho hsq hp hb2 hbb
              have k1 := SN.out.box (.tail _ (.tail _ (.head _)))
              have fz := SN.out.free (.tail _ (.tail _ (.head _)))
              have l1 := SN.out.boxlt (.tail _ (.tail _ (.head _)))
              go_wp2
              refine bodyPost_ret (v := .tuple #[.agg #[.int .i64 p.way, .int .i64 p.pallet.w, .int .i64 p.pallet.d, .int .i64 p.pallet.h, .int .i64 p.pallet.gram, .int .i64 p.classes, .slice D1 p.pairs.length g1, .slice D2 p.types.length g2, .int .i64 p.master, .slice D3 p.items.length g3], .bool pb]) (by simp [results, Tryz.results45, go_sem, k1, fz]) rfl ?_
              rw [HPM.out]
              exact mreqb_of (g := w.heap.size + 1) (us := [.int .i64 p.way, .int .i64 p.pallet.w, .int .i64 p.pallet.d, .int .i64 p.pallet.h, .int .i64 p.pallet.gram, .int .i64 p.classes, .slice D1 p.pairs.length g1, .slice D2 p.types.length g2, .int .i64 p.master, .slice D3 p.items.length g3]) SN.out.low HO.out (by have := HBB.out; omega) (by omega) (.inl (by have := HBB.out; omega))
end Go.Proofs.YteamlfcfillbjaaGreat
