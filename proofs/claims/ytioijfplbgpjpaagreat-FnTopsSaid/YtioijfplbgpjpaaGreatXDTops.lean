/-
  The law FnTops: whatever the drawn bytes: nothing on a pallet is higher than its top, something reaches it, the top is within the pallet, and no higher when all cartons have fallen.
-/
import Derived.Test.YtioijfplbgpjpaaGreatKu43
import Derived.Test.YtioijfplbgpjpaaGreatKu37
import Derived.Test.YtioijfplbgpjpaaGreatKu36
import Derived.Test.YtioijfplbgpjpaaGreatKu30
import Derived.Test.YtioijfplbgpjpaaGreatKu16
import Derived.Test.YtioijfplbgpjpaaGreatKu21
import Derived.Test.YtioijfplbgpjpaaGreatKu32
import Derived.Deep.RegionHeld3
import Derived.Deep.DeepCutAuto
namespace Go.Proofs.YtioijfplbgpjpaaGreat
set_option linter.unusedVariables false
set_option linter.unusedSimpArgs false
set_option maxRecDepth 100000
open Go.RowKit Go.WideShapes Go.ChangeShapes Go.ChangeAt Go.Deep
open Go.ChangeMaps (open_string shut_string)
theorem dropped_bulk (r : Request) (x : Plan) : (droppedR r x).bulk = x.bulk := by
  unfold droppedR
  split
  · unfold Plan.bulk
    rw [drop_len]
  · rfl
theorem any_step {α : Type} {l : List α} {j : Nat} {u : α} (p : α → Bool) (h : l[j]? = some u) : (l.take (j + 1)).any p = ((l.take j).any p || p u) := by
  rw [List.take_add_one, h, List.any_append]
  simp
set_option maxRecDepth 100000 in
set_option maxHeartbeats 40000000 in
theorem FnTops_walk (v : Value) (w : World) (h : ∃ xs, RByts 9223372036854775807 w v xs) : Calls Tryz.prog 13 #[v] w fun e w' => e = .returned (.bool true) ∧ Below w.heap.size w w' := by
  obtain ⟨xs, h⟩ := h
  have HV := Lib.hid h
  clear h
  obtain ⟨bg, hbg⟩ : ∃ b, decide (1048576 < xs.length) = b := ⟨_, rfl⟩
  have HG := Lib.hid hbg
  clear hbg
  go_enter Tryz.func13, Tryz.ntmps13
  go_wp2_with fail
  refine (big_any v xs _ HV.out).mono ?_
  rintro e w' ⟨rfl, rfl⟩
  rw [HG.out]
  cases bg
  case true =>
    go_wp2_with fail
    go_ret
    exact ⟨rfl, Below.refl _ _⟩
  have HB := Lib.hid (HV.out.plain (by have := HG.out; simp at this; omega))
  go_wp2_with fail
  refine (DrawTop_any v xs _ _ _ (Sit.here w) HB.out).mono ?_
  rintro e w1 ⟨u, r, fp, vc, vs, x, fq, k, rfl, SN1, hbk, hsx⟩
  obtain ⟨vp, vt, vi, rfl, ⟨A1, c1, rfl, _⟩, ⟨A2, c2, rfl, _⟩, ⟨A3, c3, rfl, _⟩⟩ := SN1.on _ (.head _)
  obtain ⟨zs2, hz2, ⟨A7, c7, rfl, _⟩, _, ⟨A8, c8, rfl, _⟩⟩ := RpOn.open (SN1.on _ (.tail _ (.head _)))
  have HZL := Lib.hid (show zs2.length = x.cartons.length from map_fst_len hz2)
  have hL : x.bulk ≤ 16777216 := Nat.le_trans hsx.bulk (by decide)
  have SN := Lib.hid ((SN1.alloc (cR r A1 c1 A2 c2 A3 c3) 41).alloc #[.slice A7 zs2.length c7, .slice A8 x.spots.length c8] 46)
  simp only [World.size_alloc] at SN
  obtain ⟨b3, hb3⟩ : ∃ b, w1.heap.size = b := ⟨_, rfl⟩
  rw [hb3] at SN
  clear SN1 hz2
  go_upto_region 4 with fail
  (try rw [hb3])
  generalize (w1.alloc (.cells (cR r A1 c1 A2 c2 A3 c3) 41)).alloc (.cells #[.slice A7 zs2.length c7, .slice A8 x.spots.length c8] 46) = W2 at SN ⊢
  clear hb3
  have HR := Lib.hid (SN.out.rq (v := .agg (cR r A1 c1 A2 c2 A3 c3)) (r := r) (fp := fp) (.tail _ (.tail _ (.head _))) (by omega))
  have HX := Lib.hid (SN.out.rp (vc := .slice A7 zs2.length c7) (vs := .slice A8 x.spots.length c8) (x := x) (fp := fq) (.tail _ (.tail _ (.tail _ (.head _)))) (by have := hsx.cartons; omega) (fun c hc => by have := hsx.units c hc; omega) (by have := hsx.spots; omega))
  have HLW := Lib.hid SN.out.low
  have K3 := Lib.hid (show ∀ X : World, Below W2.heap.size W2 X → (cS10 (X) (b3) (r) (.slice A1 r.pairs.length c1) (.slice A2 r.types.length c2) (.slice A3 r.items.length c3)) ∧ X.cell? ⟨b3 + 1, 0, none⟩ = some (.slice A7 zs2.length c7) ∧ X.cell? ⟨b3 + 1, 1, none⟩ = some (.slice A8 x.spots.length c8) from fun X hX => by
    have c0 := (SN.out.next hX).box (g := b3) (cs := (cR r A1 c1 A2 c2 A3 c3)) (t := 41) mq
    have c1 := (SN.out.next hX).box (g := b3 + 1) (cs := #[.slice A7 zs2.length c7, .slice A8 x.spots.length c8]) (t := 46) mq
    exact ⟨⟨c0 0, c0 1, c0 2, c0 3, c0 4, c0 5, c0 6, c0 7, c0 8, c0 9⟩, c1 0, c1 1⟩)
  clear SN
  have SN := Lib.hid (Sit.here W2)
  obtain ⟨t, ht⟩ : ∃ t, topR r x k = t := ⟨_, rfl⟩
  have HT := Lib.hid ht
  clear ht
  obtain ⟨⟨k0, k1, k2, k3, k4, k5, k6, k7, k8, k9⟩, p0, p1⟩ := K3.out _ SN.out.low
  go_wp2_with fail
  refine (iTop_any _ _ r x k _ (HR.out.next SN.out.low) (HX.out.next SN.out.low) hL).mono ?_
  rintro e1 w2 ⟨rfl, hb⟩
  rw [HT.out]
  have SN := Lib.hid (SN.out.next hb)
  clear hb
  clear k0 k1 k2 k3 k4 k5 k6 k7 k8 k9 p0 p1
  obtain ⟨⟨k0, k1, k2, k3, k4, k5, k6, k7, k8, k9⟩, p0, p1⟩ := K3.out _ SN.out.low
  go_wp2_with fail
  refine (sTop_any _ _ r x k _ (HR.out.next SN.out.low) (HX.out.next SN.out.low) hL).mono ?_
  rintro e1 w3 ⟨rfl, hb⟩
  rw [HT.out]
  have SN := Lib.hid (SN.out.next hb)
  clear hb
  clear k0 k1 k2 k3 k4 k5 k6 k7 k8 k9 p0 p1
  obtain ⟨q, hq⟩ : ∃ q, feasible r x = q := ⟨_, rfl⟩
  have HQ := Lib.hid hq
  clear hq
  obtain ⟨⟨k0, k1, k2, k3, k4, k5, k6, k7, k8, k9⟩, p0, p1⟩ := K3.out _ SN.out.low
  go_wp2_with fail
  refine (sFeasible_any _ _ r x _ (HR.out.next SN.out.low) (HX.out.next SN.out.low) hL).mono ?_
  rintro e1 w4 ⟨rfl, hb⟩
  rw [HQ.out]
  have SN := Lib.hid (SN.out.next hb)
  clear hb
  clear k0 k1 k2 k3 k4 k5 k6 k7 k8 k9 p0 p1
  cases q
  · have ht0 : t = 0 := by rw [← HT.out]; unfold topR; rw [HQ.out]; rfl
    subst ht0
    go_wp2
    go_ret
    exact ⟨rfl, bstep HLW.out SN.out.low⟩
  have htop := top_facts (k := k) HQ.out
  rw [HT.out] at htop
  have HTOP := Lib.hid htop
  have HDT := Lib.hid (show topR r (droppedR r x) k ≤ t by rw [← HT.out]; exact dropped_top k)
  have hL2 : (droppedR r x).bulk ≤ 16777216 := by rw [dropped_bulk]; exact hL
  have HOF := Lib.hid (fun u (hu : u ∈ onPal x k) => onPal_facts HQ.out hu)
  have htp := htop.2.2.2
  clear htop
  obtain ⟨⟨k0, k1, k2, k3, k4, k5, k6, k7, k8, k9⟩, p0, p1⟩ := K3.out _ SN.out.low
  go_wp2_with fail
  refine (iOnPallet_any _ x k _ (HX.out.next SN.out.low)).mono ?_
  intro e2 w5 hm
  obtain ⟨v2, fk, rfl, hS⟩ := SN.out.gotInts hm
  obtain ⟨D, d, rfl, _⟩ := (hS.list (.head _)).form
  have SN := Lib.hid hS
  clear hS hm
  clear k0 k1 k2 k3 k4 k5 k6 k7 k8 k9 p0 p1
  obtain ⟨LK, hLK⟩ : ∃ L, onPal x k = L := ⟨_, rfl⟩
  have HLK := Lib.hid hLK
  have hol : LK.length ≤ x.cartons.length := by rw [← hLK]; exact onPal_le x k
  have hx100 := hsx.cartons
  rw [hLK] at SN HTOP HOF ⊢
  clear hLK
  go_wp2
  go_loopw [8, 9] (fun hh i wr => ∃ (j : Nat) (hit : Bool), j ≤ LK.length ∧ i = .int .i64 j ∧ hh = .bool hit ∧ Hid ((((LK.length : Int) == 0) || (LK.take j).any fun u => endZ r x u == t) = hit) ∧ Hid (Sit W2 wr [fOF cI 3 1 W2.heap.size (.slice D LK.length d) LK fk])) (fun _ i _ => LK.length - (intOf i).toNat)
  case atStart => exact ⟨0, _, Nat.zero_le _, rfl, rfl, Lib.hid (by simp), SN⟩
  case round =>
    clear SN
    obtain ⟨j, hit, hj, rfl, rfl, HH, SN⟩ := hrel
    by_cases hlt : j < LK.length
    · obtain ⟨i, hi⟩ : ∃ i, LK[j]? = some i := ⟨_, List.getElem?_eq_getElem hlt⟩
      have hmem := List.mem_of_getElem? hi
      obtain ⟨m, rfl, hm1, hm2⟩ := onPal_in (by rw [HLK.out]; exact hi)
      obtain ⟨gd, rfl⟩ := head_ptr (SN.out.list (.head _)) hi
      have HI := Lib.hid hi
      obtain ⟨PA, ca, PB, cb, heq, HPA, HPB, hla, hlb⟩ := HX.out.opn
      have e1 : Value.slice A7 zs2.length c7 = .slice PA x.cartons.length ca := by injection heq with h1; exact (List.cons.inj (congrArg Array.toList h1)).1
      have e2 : Value.slice A8 x.spots.length c8 = .slice PB x.spots.length cb := by injection heq with h1; exact (List.cons.inj (List.cons.inj (congrArg Array.toList h1)).2).1
      injection e1 with e11 e12 e13
      injection e2 with e21 e22 e23
      subst e11 e13 e21 e23
      clear e12
      obtain ⟨b, off, c, U, cu, rfl, hb, hc, HU, HC⟩ := HPA.out.one m hm1
      obtain ⟨b2, off2, s, rfl, hb2, hs, HC2⟩ := HPB.out.one m hm2
      obtain ⟨bx, hbx⟩ : ∃ bx, boxR r c = bx := ⟨_, rfl⟩
      have HBX := Lib.hid hbx
      obtain ⟨_, _, a3, _, _, a6, _⟩ := HOF.out _ hmem
      have hend := HTOP.out.1 _ hmem
      have hez : endZ r x (m : Int) = s.z + bx.h := by unfold endZ; rw [spotAt_at hs, boxAt_nat hc, hbx]
      rw [spotAt_at hs] at a6
      rw [boxAt_nat hc, hbx] at a3
      rw [hez] at hend
      have hw1 : wrap64 (s.z + bx.h) = s.z + bx.h := wrap_sum a6 a3
      have hw2 : IntKind.i64.wrap (s.z + bx.h) = s.z + bx.h := by rw [wrapE]; exact hw1
      have HST := Lib.hid (any_step (fun u => endZ r x u == t) hi)
      have HEZ := Lib.hid hez
      have HCC := Lib.hid (show ∀ X : World, Below wr.heap.size wr X → (cS10 (X) (b3) (r) (.slice A1 r.pairs.length c1) (.slice A2 r.types.length c2) (.slice A3 r.items.length c3)) ∧ (X.cell? ⟨b3 + 1, 0, none⟩ = some (.slice (some ⟨b, off, none⟩) zs2.length c7) ∧ X.cell? ⟨b3 + 1, 1, none⟩ = some (.slice (some ⟨b2, off2, none⟩) x.spots.length c8)) ∧ X.cell? ⟨gd, j, none⟩ = some (.int .i64 (m : Int)) ∧ (cC3 (X) (b) (off) (m) (c) (.slice U c.units.length cu)) ∧ cS4 (X) (b2) (off2) (m) (s) from fun X hX => by
        have hX := SN.out.next hX
        obtain ⟨q1, q2, q3⟩ := K3.out X hX.low
        have q4 := (hX.list (.head _)).cells (fun z => rfl) HI.out 0 (.int .i64 (m : Int)) rfl
        rw [Nat.mul_one, Nat.add_zero] at q4
        exact ⟨q1, ⟨q2, q3⟩, q4, HC.out X hX.low, HC2.out X hX.low⟩)
      have hfld := fun W => box_field2 bx.w bx.d bx.h bx.gram W
      have hm1z : m < zs2.length := by have := HZL.out; omega
      have hm1i : (m : Int) < (zs2.length : Int) := by have := HZL.out; omega
      clear hi hc hs hbx hmem hez heq a3 a6
      go_wp2
      refine regu (S := (fun W' => (cS10 (W') (b3) (r) (.slice A1 r.pairs.length c1) (.slice A2 r.types.length c2) (.slice A3 r.items.length c3)) ∧ (W'.cell? ⟨b3 + 1, 0, none⟩ = some (.slice (some ⟨b, off, none⟩) zs2.length c7) ∧ W'.cell? ⟨b3 + 1, 1, none⟩ = some (.slice (some ⟨b2, off2, none⟩) x.spots.length c8)) ∧ W'.cell? ⟨gd, j, none⟩ = some (.int .i64 (m : Int)) ∧ (cC3 (W') (b) (off) (m) (c) (.slice U c.units.length cu)) ∧ cS4 (W') (b2) (off2) (m) (s))) (by kernel_rfl) (fun _ _ _ _ _ => id) ?_ fun hHeld => ?_
      · (first | (refine HCC.out _ ?_; (repeat' with_reducible first | assumption | exact bR | apply bD | apply bA | apply bC | apply bW | omega | simp <;> omega); done) | go_keep)
      refine tku (b := ?_) [0, 1, 2, 3, 4, 5, 6, 7, 8, 9, 10, 11, 12, 13, 14, 15, 16, 17] (by kernel_rfl) hHeld ?_ ?_
      rotate_left
      · repeat first
        | exact .nil
        | refine .yes (v := ?_) rfl (by rfl) ?_ ?_
          rotate_left
          · intro w9 hSw; (try dsimp only at hSw); go_simp; (try with_reducible rfl)
          (try simp only [aP, aZ, aS, aG, aH, aI])
      refine onu 18 rfl (by kernel_rfl) fun K hK => ?_
      go_simp
      ((go_at_call 53; refine (iBoxOf_any _ _ r c _ (HR.out.next (SN.out.next (by (repeat' with_reducible first | assumption | exact bR | apply bD | apply bA | apply bC | apply bW | omega | simp <;> omega))).low) (HU.out.next (flat_mono _) (SN.out.next (by (repeat' with_reducible first | assumption | exact bR | apply bD | apply bA | apply bC | apply bW | omega | simp <;> omega))).low)).mono ?_; rintro e w3 ⟨rfl, hb3⟩; rw [HBX.out]; have hn3 := bstep (a := wr) (by (repeat' with_reducible first | assumption | exact bR | apply bD | apply bA | apply bC | apply bW | omega | simp <;> omega)) hb3))
      refine hK.out _ _ ?_ (fun hHeld => ?_)
      · (first | (refine HCC.out _ ?_; (repeat' with_reducible first | assumption | exact bR | apply bD | apply bA | apply bC | apply bW | omega | simp <;> omega); done) | go_keep)
      clear hK K
      (try simp only [aP, aZ, aS, aG, aH, aI])
      refine tku (b := ?_) [19, 20] (by kernel_rfl) hHeld ?_ ?_
      rotate_left
      · repeat first
        | exact .nil
        | refine .yes (v := ?_) rfl (by rfl) ?_ ?_
          rotate_left
          · intro w9 hSw; (try dsimp only at hSw); go_simp; (try with_reducible rfl)
          (try simp only [aP, aZ, aS, aG, aH, aI])
      refine lsu 21 rfl (by kernel_rfl) fun K hK => ?_
      go_simp
      refine hK.out _ _ ?_
      clear hK K
      (try simp only [aP, aZ, aS, aG, aH, aI])
      skip
      have SN := Lib.hid (SN.out.next hn3)
      have hgt : ¬ (t < s.z + bx.h) := by omega
      have hgd : decide (t < s.z + bx.h) = false := decide_eq_false hgt
      clear hn3 hb3 HCC
      cases hit
      · go_wp2
        go_roundw
        case rel => exact ⟨j + 1, _, hlt, by go_num, rfl, Lib.hid (by simp only [HST.out, ← Bool.or_assoc, HH.out, HEZ.out, Bool.true_or, Bool.false_or]), SN⟩
        case measure => simp [intOf] <;> omega
      · go_wp2
        go_roundw
        case rel => exact ⟨j + 1, true, hlt, by go_num, rfl, Lib.hid (by simp only [HST.out, ← Bool.or_assoc, HH.out, HEZ.out, Bool.true_or, Bool.false_or]), SN⟩
        case measure => simp [intOf] <;> omega
    · obtain rfl : j = LK.length := by omega
      have hht : hit = true := by
        rw [← HH.out, List.take_length]
        rcases HTOP.out.2.1 with h0 | ⟨u, hu, h0⟩
        · rw [h0]; rfl
        · rw [List.any_eq_true.2 ⟨u, hu, by simpa using h0⟩]; simp
      subst hht
      have hd1 : decide (t ≤ r.pallet.h) = true := decide_eq_true htp
      have hd2 : decide (topR r (droppedR r x) k ≤ t) = true := decide_eq_true HDT.out
      have HCC := Lib.hid (show ∀ X : World, Below wr.heap.size wr X → (cS10 (X) (b3) (r) (.slice A1 r.pairs.length c1) (.slice A2 r.types.length c2) (.slice A3 r.items.length c3)) ∧ X.cell? ⟨b3 + 1, 0, none⟩ = some (.slice A7 zs2.length c7) ∧ X.cell? ⟨b3 + 1, 1, none⟩ = some (.slice A8 x.spots.length c8) from fun X hX => K3.out X (SN.out.next hX).low)
      go_wp2_with fail
      refine regu (S := (fun X => (cS10 (X) (b3) (r) (.slice A1 r.pairs.length c1) (.slice A2 r.types.length c2) (.slice A3 r.items.length c3)) ∧ X.cell? ⟨b3 + 1, 0, none⟩ = some (.slice A7 zs2.length c7) ∧ X.cell? ⟨b3 + 1, 1, none⟩ = some (.slice A8 x.spots.length c8))) (by kernel_rfl) (fun _ _ _ _ _ => id) ?_ fun hHeld => ?_
      · (first | (refine HCC.out _ ?_; (repeat' with_reducible first | assumption | exact bR | apply bD | apply bA | apply bC | apply bW | omega | simp <;> omega); done) | go_keep)
      refine tku (b := ?_) [0, 1, 2, 3, 4, 5, 6, 7, 8, 9, 10, 11, 13, 15] (by kernel_rfl) hHeld ?_ ?_
      rotate_left
      · repeat first
        | exact .nil
        | refine .yes (v := ?_) rfl (by rfl) ?_ ?_
          rotate_left
          · intro w9 hSw; (try dsimp only at hSw); go_simp; (try with_reducible rfl)
          (try simp only [aP, aZ, aS, aG, aH, aI])
      refine onu 12 rfl (by kernel_rfl) fun K hK => ?_
      go_simp
      ((go_at_call 52; refine (iDropped_any _ _ r x _ (HR.out.next (SN.out.next (by (repeat' with_reducible first | assumption | exact bR | apply bD | apply bA | apply bC | apply bW | omega | simp <;> omega))).low) (HX.out.next (SN.out.next (by (repeat' with_reducible first | assumption | exact bR | apply bD | apply bA | apply bC | apply bW | omega | simp <;> omega))).low) hL).mono ?_; rintro e w6 ⟨u6, f6, rfl, ho6, hb6⟩; have hn6 := bstep (a := wr) (by (repeat' with_reducible first | assumption | exact bR | apply bD | apply bA | apply bC | apply bW | omega | simp <;> omega)) hb6; have hr6 := ho6.read hL2; clear ho6))
      refine hK.out _ _ ?_ (fun hHeld => ?_)
      · (first | (refine HCC.out _ ?_; (repeat' with_reducible first | assumption | exact bR | apply bD | apply bA | apply bC | apply bW | omega | simp <;> omega); done) | go_keep)
      clear hK K
      (try simp only [aP, aZ, aS, aG, aH, aI])
      refine onu 14 rfl (by kernel_rfl) fun K hK => ?_
      go_simp
      ((go_at_call 24; refine (iTop_any _ _ r (droppedR r x) k _ (HR.out.next (SN.out.next (by (repeat' with_reducible first | assumption | exact bR | apply bD | apply bA | apply bC | apply bW | omega | simp <;> omega))).low) (hr6.next (by (repeat' with_reducible first | assumption | exact bR | apply bD | apply bA | apply bC | apply bW | omega | simp <;> omega))) hL2).mono ?_; rintro e w7 ⟨rfl, hb7⟩; have hn7 := bstep (a := wr) (by (repeat' with_reducible first | assumption | exact bR | apply bD | apply bA | apply bC | apply bW | omega | simp <;> omega)) hb7))
      refine hK.out _ _ ?_ (fun hHeld => ?_)
      · (first | (refine HCC.out _ ?_; (repeat' with_reducible first | assumption | exact bR | apply bD | apply bA | apply bC | apply bW | omega | simp <;> omega); done) | go_keep)
      clear hK K
      (try simp only [aP, aZ, aS, aG, aH, aI])
      refine tku (b := ?_) [16, 17] (by kernel_rfl) hHeld ?_ ?_
      rotate_left
      · repeat first
        | exact .nil
        | refine .yes (v := ?_) rfl (by rfl) ?_ ?_
          rotate_left
          · intro w9 hSw; (try dsimp only at hSw); go_simp; (try with_reducible rfl)
          (try simp only [aP, aZ, aS, aG, aH, aI])
      refine lsu 18 rfl (by kernel_rfl) fun K hK => ?_
      go_simp
      refine hK.out _ _ ?_
      clear hK K
      (try simp only [aP, aZ, aS, aG, aH, aI])
      go_wp2_with fail
      go_ret
      exact ⟨rfl, bstep HLW.out (SN.out.next (by (repeat' with_reducible first | assumption | exact bR | apply bD | apply bA | apply bC | apply bW | omega | simp <;> omega))).low⟩
set_option maxRecDepth 100000 in
theorem FnTops_lifted (os : Os) (started : os.Started) (H : Type) (enc : TypeId × Value → H) :
    ReturnsInHanded {} Tryz.checked os 13 .any (Rows.fnTopsSpec.pre6 enc Tryz.prog Tryz.f13 Rows.fnTopsRow.domain false) (Rows.fnTopsSpec.post enc Tryz.prog Tryz.f13 false true false false) := by
  refine returnsInHanded_of_change (C := Tryz.checked) own_ started (by kernel_rfl) Tryz.func13
    (ChangeSpec.witness6 (enc := enc) (C := Tryz.checked) false ⟨#[], #[.slice none 0 0], []⟩ 8 (by kernel_rfl) (by kernel_rfl) (by kernel_rfl) (by kernel_rfl)) ?_
  intro W base args ds gs before hval0 hW hcnd _
  have hval : ∀ (j : Nat) t v, Tryz.f13.params[j]? = some t → args[j]? = some v → Value.okWide Tryz.prog W .any base t v := hval0
  have hW' := hW
  obtain ⟨p, q, hA0, hV, rfl, hfz, hnd⟩ := hW
  have hA : DataW.TrodAll enc Tryz.prog W 0 (fun _ => true) true Tryz.f13.params.toList args.toList ds p := hA0
  rw [Tryz.params13] at hA hval
  obtain ⟨v0, vs0, d0, ds0, p0, q0, hargs, rfl, rfl, h0, r0⟩ := trodAll_cons hA
  obtain ⟨rfl, rfl, rfl⟩ := trodAll_nil r0
  obtain rfl : args = #[v0] := by cases args; simp_all
  obtain ⟨rfl, rfl⟩ := trodVars_none hV
  clear hA0 hval0 hA
  simp only [List.append_nil] at hW'
  have hlt : ∀ x ∈ p0, x.block < W.heap.size := fun x hx => hW'.lt x (by simpa using hx)
  have k0 := h0
  have w0 := read_Bytes (hval 0 63 v0 rfl rfl) h0 (fun x hx => hlt x (by simp [hx]))
  refine (FnTops_walk v0 W w0).mono fun e W' ⟨he, hb⟩ => ?_
  subst he
  exact ⟨_, rfl, post_of_below (pa := p0 ++ []) (pv := []) hW' (fun _ _ _ => (trodAll_cons_mk (shut_bool Tryz.underlying4 _) trodAll_mk0)) (fun sp hsp => (trodAll_cons_mk (stays laidOut_ (by kernel_rfl) (of_decide_eq_true (by kernel_rfl)) k0 hb (fun x hx => hlt x (by simp [hx])) (fun x hx => hsp x (by simp [hx]))) trodAll_mk0)) (fun _ _ => rfl) (by simp) hb
    (ok_one (by kernel_rfl) rfl (okWide_bool_mk Tryz.underlying4 _))⟩
theorem FnTops_inPlace : (Rows.fnTopsRow.inPlace == Tryz.prog.inPlace 13) = true := by kernel_rfl
theorem FnTops_unfollowed : (Rows.fnTopsRow.unfollowed == Tryz.prog.unfollowed 13) = true := by kernel_rfl
theorem FnTops_recurses : (Rows.fnTopsRow.recurses == Tryz.prog.recurses 13) = true := by kernel_rfl
theorem FnTops_named : (Rows.fnTopsRow.named == Tryz.prog.varsNamed 13) = true := by kernel_rfl
theorem FnTops_closed : joinedFacts Tryz.prog 13 Tryz.f13 Rows.fnTopsSpec Rows.fnTopsRow = true := by
  unfold joinedFacts
  rw [laidOut_, fx_maps, fx_stops, fx_stopKnobs, fx_plain, fx_heard, fx_may, fx_lift, FnTops_inPlace, FnTops_unfollowed, FnTops_recurses, FnTops_named]
  kernel_rfl
theorem FnTops_over : Rows.fnTopsRow.holds Tryz.pinned (OpenSpec.ofChange Rows.fnTopsSpec) :=
  OpenClaim.holds_of_wide 13 Tryz.f13 rfl rfl rfl rfl rfl rfl rfl ⟨rfl, rfl, rfl, rfl, rfl⟩ rfl rfl rfl rfl rfl (by kernel_rfl) Tryz.func13 FnTops_closed
    (of_decide_eq_true (by kernel_rfl)) (by unfold Func.isWrapper; first | (rw [if_pos (by decide +kernel)]; kernel_rfl) | (rw [if_neg (by decide +kernel)]; exact ⟨rfl, rfl⟩))
    (fun os started H enc _ => FnTops_lifted os started H enc)
theorem FnTops_proved : Rows.FnTopsSaid := FnTops_over
end Go.Proofs.YtioijfplbgpjpaaGreat
