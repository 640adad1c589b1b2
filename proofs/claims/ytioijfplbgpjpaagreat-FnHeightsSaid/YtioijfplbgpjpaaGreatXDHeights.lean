/-
  The law FnHeights: whatever the drawn bytes: at each height at which something begins something is covered; below the least one, and at the top, nothing.
-/
import Derived.Test.YtioijfplbgpjpaaGreatKu43
import Derived.Test.YtioijfplbgpjpaaGreatKu37
import Derived.Test.YtioijfplbgpjpaaGreatKu33
import Derived.Test.YtioijfplbgpjpaaGreatKu31
import Derived.Test.YtioijfplbgpjpaaGreatKu22
import Derived.Test.YtioijfplbgpjpaaGreatKu30
import Derived.Test.YtioijfplbgpjpaaGreatKu16
import Derived.Test.YtioijfplbgpjpaaGreatKu21
import Derived.Test.YtioijfplbgpjpaaGreatKu32
import Derived.Deep.RegionHeld3
import Derived.Deep.DeepCutAuto
namespace Go.Proofs.YtioijfplbgpjpaaGreat
set_option linter.unusedVariables false
set_option linter.unusedSimpArgs false
set_option maxRecDepth 100000
open Go.RowKit Go.WideShapes Go.ChangeShapes Go.ChangeAt Go.Deep
open Go.ChangeMaps (open_string shut_string)
theorem heights_range {r : Request} {x : Plan} {k z : Int} (h : feasible r x = true) (hz : z ∈ heightsR r x k) : 0 ≤ z ∧ z ≤ 2000 := by
  unfold heightsR at hz
  rw [if_pos h, kindsM_mem, zsOn_mem] at hz
  obtain ⟨u, hu, rfl⟩ := hz
  obtain ⟨_, _, _, _, _, a6, _⟩ := onPal_facts h hu
  exact a6
theorem heights_bad {r : Request} {x : Plan} {k : Int} (h : feasible r x = false) : heightsR r x k = [] := by unfold heightsR; rw [h]; rfl
set_option maxRecDepth 100000 in
set_option maxHeartbeats 40000000 in
theorem FnHeights_walk (v : Value) (w : World) (h : ∃ xs, RByts 9223372036854775807 w v xs) : Calls Tryz.prog 15 #[v] w fun e w' => e = .returned (.bool true) ∧ Below w.heap.size w w' := by
  obtain ⟨xs, h⟩ := h
  have HV := Lib.hid h
  clear h
  obtain ⟨bg, hbg⟩ : ∃ b, decide (1048576 < xs.length) = b := ⟨_, rfl⟩
  have HG := Lib.hid hbg
  clear hbg
  go_enter Tryz.func15, Tryz.ntmps15
  go_wp2_with fail
  refine (big_any v xs _ HV.out).mono ?_
  rintro e w' ⟨rfl, rfl⟩
  rw [HG.out]
  cases bg
  case true =>
    go_wp2_with fail
    go_ret
    exact ⟨rfl, Below.refl _ _⟩
  have HB := Lib.hid (HV.out.plain (by have := HG.out; simp at this; omega))
  go_wp2_with fail
  refine (DrawHeights_any v xs _ _ _ (Sit.here w) HB.out).mono ?_
  rintro e w1 ⟨u, r, fp, vc, vs, x, fq, k, rfl, SN1, hbk, hsx⟩
  obtain ⟨vp, vt, vi, rfl, ⟨A1, c1, rfl, _⟩, ⟨A2, c2, rfl, _⟩, ⟨A3, c3, rfl, _⟩⟩ := SN1.on _ (.head _)
  obtain ⟨zs2, hz2, ⟨A7, c7, rfl, _⟩, _, ⟨A8, c8, rfl, _⟩⟩ := RpOn.open (SN1.on _ (.tail _ (.head _)))
  have HZL := Lib.hid (show zs2.length = x.cartons.length from map_fst_len hz2)
  have hL : x.bulk ≤ 16777216 := Nat.le_trans hsx.bulk (by decide)
  have SN := Lib.hid ((SN1.alloc (cR r A1 c1 A2 c2 A3 c3) 41).alloc #[.slice A7 zs2.length c7, .slice A8 x.spots.length c8] 46)
  simp only [World.size_alloc] at SN
  obtain ⟨b3, hb3⟩ : ∃ b, w1.heap.size = b := ⟨_, rfl⟩
  rw [hb3] at SN
  clear SN1 hz2
  go_upto_region 4 with fail
  (try rw [hb3])
  generalize (w1.alloc (.cells (cR r A1 c1 A2 c2 A3 c3) 41)).alloc (.cells #[.slice A7 zs2.length c7, .slice A8 x.spots.length c8] 46) = W2 at SN ⊢
  clear hb3
  have HR := Lib.hid (SN.out.rq (v := .agg (cR r A1 c1 A2 c2 A3 c3)) (r := r) (fp := fp) (.tail _ (.tail _ (.head _))) (by omega))
  have HX := Lib.hid (SN.out.rp (vc := .slice A7 zs2.length c7) (vs := .slice A8 x.spots.length c8) (x := x) (fp := fq) (.tail _ (.tail _ (.tail _ (.head _)))) (by have := hsx.cartons; omega) (fun c hc => by have := hsx.units c hc; omega) (by have := hsx.spots; omega))
  have HLW := Lib.hid SN.out.low
  have K3 := Lib.hid (show ∀ X : World, Below W2.heap.size W2 X → (cS10 (X) (b3) (r) (.slice A1 r.pairs.length c1) (.slice A2 r.types.length c2) (.slice A3 r.items.length c3)) ∧ X.cell? ⟨b3 + 1, 0, none⟩ = some (.slice A7 zs2.length c7) ∧ X.cell? ⟨b3 + 1, 1, none⟩ = some (.slice A8 x.spots.length c8) from fun X hX => by
    have c0 := (SN.out.next hX).box (g := b3) (cs := (cR r A1 c1 A2 c2 A3 c3)) (t := 41) mq
    have c1 := (SN.out.next hX).box (g := b3 + 1) (cs := #[.slice A7 zs2.length c7, .slice A8 x.spots.length c8]) (t := 46) mq
    exact ⟨⟨c0 0, c0 1, c0 2, c0 3, c0 4, c0 5, c0 6, c0 7, c0 8, c0 9⟩, c1 0, c1 1⟩)
  clear SN
  have SN := Lib.hid (Sit.here W2)
  have hol := onPal_le x k
  have hHl := heights_len (r := r) (x := x) (k := k)
  obtain ⟨M, hM⟩ : ∃ M, heightsR r x k = M := ⟨_, rfl⟩
  have HM := Lib.hid hM
  have hx100 := hsx.cartons
  rw [hM] at hHl
  have hMl : M.length ≤ 100 := by omega
  clear hM hHl
  obtain ⟨⟨k0, k1, k2, k3, k4, k5, k6, k7, k8, k9⟩, p0, p1⟩ := K3.out _ SN.out.low
  go_wp2_with fail
  refine (iHeights_any _ _ r x k _ (HR.out.next SN.out.low) (HX.out.next SN.out.low) hL).mono ?_
  intro e1 w3 hm
  rw [HM.out] at hm
  obtain ⟨v6, f6, rfl, SN1⟩ := SN.out.gotInts hm
  obtain ⟨A6, c6, rfl, _⟩ := (SN1.list (.head _)).form
  have SQ := Lib.hid SN1
  clear SN SN1 hm
  clear k0 k1 k2 k3 k4 k5 k6 k7 k8 k9 p0 p1
  have SN := SQ
  clear SQ
  obtain ⟨⟨k0, k1, k2, k3, k4, k5, k6, k7, k8, k9⟩, p0, p1⟩ := K3.out _ SN.out.low
  go_wp2_with fail
  refine (sHeights_any _ _ r x k _ (HR.out.next SN.out.low) (HX.out.next SN.out.low) hL).mono ?_
  intro e2 w4 hm
  rw [HM.out] at hm
  obtain ⟨v7, f7, rfl, SN1⟩ := SN.out.gotInts hm
  obtain ⟨A9, c9, rfl, _⟩ := (SN1.list (.head _)).form
  have SQ := Lib.hid SN1
  clear SN SN1 hm
  have SN := SQ
  clear SQ
  clear k0 k1 k2 k3 k4 k5 k6 k7 k8 k9 p0 p1
  go_wp2_with fail
  refine (sameInts_any _ _ M M _ (OInts.read (SN.out.list (.tail _ (.head _))) (by omega)) (OInts.read (SN.out.list (.head _)) (by omega))).mono ?_
  rintro e w5 ⟨rfl, hb5⟩
  rw [show decide (M = M) = true from decide_eq_true rfl]
  have SN := Lib.hid ((SN.out.next hb5).drop)
  clear hb5
  go_wp2_with fail
  go_loopw [7] (fun i wr => ∃ j : Nat, j ≤ M.length ∧ i = .int .i64 j ∧ Hid (Sit W2 wr [fOF cI 3 1 W2.heap.size (.slice A6 M.length c6) M f6])) (fun i _ => M.length - (intOf i).toNat)
  case atStart => exact ⟨0, Nat.zero_le _, rfl, SN⟩
  case round =>
    clear SN
    obtain ⟨j, hj, rfl, SN⟩ := hrel
    by_cases hlt : j < M.length
    · obtain ⟨z, hz⟩ : ∃ z, M[j]? = some z := ⟨_, List.getElem?_eq_getElem hlt⟩
      obtain ⟨g6, rfl⟩ := head_ptr (SN.out.list (.head _)) hz
      have HZ := Lib.hid hz
      obtain ⟨cv, hcv⟩ : ∃ c, coveredR r x k z = c := ⟨_, rfl⟩
      have hc1 : 1 ≤ cv := by rw [← hcv]; exact heights_covered (by rw [HM.out]; exact List.mem_of_getElem? hz)
      have HCV := Lib.hid hcv
      have hcd : decide (cv < 1) = false := decide_eq_false (by omega)
      clear hz hcv
      have HSM := Lib.hid (fun (X : World) (hX : Below wr.heap.size wr X) (i : Nat) (y : Int) (hy : M[i]? = some y) => show X.cell? ⟨g6, i, none⟩ = some (.int .i64 y) from by
        have q := ((SN.out.next hX).list (.head _)).cells (fun _ => rfl) hy 0 (.int .i64 y) rfl
        rw [Nat.mul_one, Nat.add_zero] at q
        exact q)
      rcases Nat.eq_zero_or_pos j with hj0 | hj0
      · subst hj0
        have HCC := Lib.hid (show ∀ X : World, Below wr.heap.size wr X → ((cS10 (X) (b3) (r) (.slice A1 r.pairs.length c1) (.slice A2 r.types.length c2) (.slice A3 r.items.length c3)) ∧ X.cell? ⟨b3 + 1, 0, none⟩ = some (.slice A7 zs2.length c7) ∧ X.cell? ⟨b3 + 1, 1, none⟩ = some (.slice A8 x.spots.length c8)) ∧ X.cell? ⟨g6, 0, none⟩ = some (.int .i64 z) from fun X hX => ⟨K3.out X (SN.out.next hX).low, HSM.out X hX 0 z HZ.out⟩)
        go_wp2_with fail
        refine regu (S := (fun X => ((cS10 (X) (b3) (r) (.slice A1 r.pairs.length c1) (.slice A2 r.types.length c2) (.slice A3 r.items.length c3)) ∧ X.cell? ⟨b3 + 1, 0, none⟩ = some (.slice A7 zs2.length c7) ∧ X.cell? ⟨b3 + 1, 1, none⟩ = some (.slice A8 x.spots.length c8)) ∧ X.cell? ⟨g6, 0, none⟩ = some (.int .i64 z))) (by kernel_rfl) (fun _ _ _ _ _ => id) ?_ fun hHeld => ?_
        · (first | (refine HCC.out _ ?_; (repeat' with_reducible first | assumption | exact bR | apply bD | apply bA | apply bC | apply bW | omega | simp <;> omega); done) | go_keep)
        refine tku (b := ?_) [0, 1, 2, 3, 4, 5, 6] (by kernel_rfl) hHeld ?_ ?_
        rotate_left
        · repeat first
          | exact .nil
          | refine .yes (v := ?_) rfl (by rfl) ?_ ?_
            rotate_left
            · intro w9 hSw; (try dsimp only at hSw); go_simp; (try with_reducible rfl)
            (try simp only [aP, aZ, aS, aG, aH, aI])
        refine onu 7 rfl (by kernel_rfl) fun K hK => ?_
        go_simp
        ((go_at_call 28; refine (iCovered_any _ _ r x k z _ (HR.out.next (SN.out.next (by (repeat' with_reducible first | assumption | exact bR | apply bD | apply bA | apply bC | apply bW | omega | simp <;> omega))).low) (HX.out.next (SN.out.next (by (repeat' with_reducible first | assumption | exact bR | apply bD | apply bA | apply bC | apply bW | omega | simp <;> omega))).low) hL).mono ?_; rintro e w6 ⟨rfl, hb6⟩; rw [HCV.out]; have hn6 := bstep (a := wr) (by (repeat' with_reducible first | assumption | exact bR | apply bD | apply bA | apply bC | apply bW | omega | simp <;> omega)) hb6))
        refine hK.out _ _ ?_ (fun hHeld => ?_)
        · (first | (refine HCC.out _ ?_; (repeat' with_reducible first | assumption | exact bR | apply bD | apply bA | apply bC | apply bW | omega | simp <;> omega); done) | go_keep)
        clear hK K
        (try simp only [aP, aZ, aS, aG, aH, aI])
        refine tku (b := ?_) [8, 9, 10, 11, 12] (by kernel_rfl) hHeld ?_ ?_
        rotate_left
        · repeat first
          | exact .nil
          | refine .yes (v := ?_) rfl (by rfl) ?_ ?_
            rotate_left
            · intro w9 hSw; (try dsimp only at hSw); go_simp; (try with_reducible rfl)
            (try simp only [aP, aZ, aS, aG, aH, aI])
        refine tku (b := ?_) [13, 14, 15, 16, 17, 18, 19, 20, 21, 22] (by kernel_rfl) hHeld ?_ ?_
        rotate_left
        · repeat first
          | exact .nil
          | refine .no rfl (by rfl) ?_
            (try simp only [aP, aZ, aS, aG, aH, aI])
        refine tku (b := ?_) [23] (by kernel_rfl) hHeld ?_ ?_
        rotate_left
        · repeat first
          | exact .nil
          | refine .yes (v := ?_) rfl (by rfl) ?_ ?_
            rotate_left
            · intro w9 hSw; (try dsimp only at hSw); go_simp; (try with_reducible rfl)
            (try simp only [aP, aZ, aS, aG, aH, aI])
        refine lsu 24 rfl (by kernel_rfl) fun K hK => ?_
        go_simp
        refine hK.out _ _ ?_
        clear hK K
        (try simp only [aP, aZ, aS, aG, aH, aI])
        go_wp2_with fail
        go_roundw
        case rel => exact ⟨0 + 1, hlt, by go_num, Lib.hid (SN.out.next (by (repeat' with_reducible first | assumption | exact bR | apply bD | apply bA | apply bC | apply bW | omega | simp <;> omega)))⟩
        case measure => simp [intOf] <;> omega
      · obtain ⟨m, hjm⟩ : ∃ m, j = m + 1 := ⟨j - 1, by omega⟩
        obtain ⟨z1, hz1⟩ : ∃ u, M[m]? = some u := ⟨_, List.getElem?_eq_getElem (by omega)⟩
        have hst : decide (z ≤ z1) = false := decide_eq_false <| by
          obtain ⟨i1, e1⟩ := List.getElem?_eq_some_iff.1 HZ.out
          obtain ⟨i2, e2⟩ := List.getElem?_eq_some_iff.1 hz1
          have ha := heights_asc (r := r) (x := x) (k := k)
          rw [HM.out] at ha
          have := List.pairwise_iff_getElem.1 ha m j i2 i1 (by omega)
          omega
        have HCC := Lib.hid (show ∀ X : World, Below wr.heap.size wr X → ((cS10 (X) (b3) (r) (.slice A1 r.pairs.length c1) (.slice A2 r.types.length c2) (.slice A3 r.items.length c3)) ∧ X.cell? ⟨b3 + 1, 0, none⟩ = some (.slice A7 zs2.length c7) ∧ X.cell? ⟨b3 + 1, 1, none⟩ = some (.slice A8 x.spots.length c8)) ∧ X.cell? ⟨g6, j, none⟩ = some (.int .i64 z) ∧ X.cell? ⟨g6, m, none⟩ = some (.int .i64 z1) from fun X hX => ⟨K3.out X (SN.out.next hX).low, HSM.out X hX j z HZ.out, HSM.out X hX m z1 hz1⟩)
        have hm0 : decide ((0 : Int) < (j : Int)) = true := decide_eq_true (by omega)
        have hkp : (0 : Int) < (j : Int) := by omega
        have hw1 : wrap64 ((j : Int) - 1) = (m : Int) := by unfold wrap64; omega
        have hw2 : IntKind.i64.wrap ((j : Int) - 1) = (m : Int) := by rw [wrapE]; exact hw1
        have hmlt : m < M.length := by omega
        clear hjm hz1
        go_wp2_with fail
        refine regu (S := (fun X => ((cS10 (X) (b3) (r) (.slice A1 r.pairs.length c1) (.slice A2 r.types.length c2) (.slice A3 r.items.length c3)) ∧ X.cell? ⟨b3 + 1, 0, none⟩ = some (.slice A7 zs2.length c7) ∧ X.cell? ⟨b3 + 1, 1, none⟩ = some (.slice A8 x.spots.length c8)) ∧ X.cell? ⟨g6, j, none⟩ = some (.int .i64 z) ∧ X.cell? ⟨g6, m, none⟩ = some (.int .i64 z1))) (by kernel_rfl) (fun _ _ _ _ _ => id) ?_ fun hHeld => ?_
        · (first | (refine HCC.out _ ?_; (repeat' with_reducible first | assumption | exact bR | apply bD | apply bA | apply bC | apply bW | omega | simp <;> omega); done) | go_keep)
        refine tku (b := ?_) [0, 1, 2, 3, 4, 5, 6] (by kernel_rfl) hHeld ?_ ?_
        rotate_left
        · repeat first
          | exact .nil
          | refine .yes (v := ?_) rfl (by rfl) ?_ ?_
            rotate_left
            · intro w9 hSw; (try dsimp only at hSw); go_simp; (try with_reducible rfl)
            (try simp only [aP, aZ, aS, aG, aH, aI])
        refine onu 7 rfl (by kernel_rfl) fun K hK => ?_
        go_simp
        ((go_at_call 28; refine (iCovered_any _ _ r x k z _ (HR.out.next (SN.out.next (by (repeat' with_reducible first | assumption | exact bR | apply bD | apply bA | apply bC | apply bW | omega | simp <;> omega))).low) (HX.out.next (SN.out.next (by (repeat' with_reducible first | assumption | exact bR | apply bD | apply bA | apply bC | apply bW | omega | simp <;> omega))).low) hL).mono ?_; rintro e w6 ⟨rfl, hb6⟩; rw [HCV.out]; have hn6 := bstep (a := wr) (by (repeat' with_reducible first | assumption | exact bR | apply bD | apply bA | apply bC | apply bW | omega | simp <;> omega)) hb6))
        refine hK.out _ _ ?_ (fun hHeld => ?_)
        · (first | (refine HCC.out _ ?_; (repeat' with_reducible first | assumption | exact bR | apply bD | apply bA | apply bC | apply bW | omega | simp <;> omega); done) | go_keep)
        clear hK K
        (try simp only [aP, aZ, aS, aG, aH, aI])
        refine tku (b := ?_) [8, 9, 10, 11, 12, 13, 14, 15, 16, 17, 18, 19, 20, 21, 22, 23] (by kernel_rfl) hHeld ?_ ?_
        rotate_left
        · repeat first
          | exact .nil
          | refine .yes (v := ?_) rfl (by rfl) ?_ ?_
            rotate_left
            · intro w9 hSw; (try dsimp only at hSw); go_simp; (try with_reducible rfl)
            (try simp only [aP, aZ, aS, aG, aH, aI])
        refine lsu 24 rfl (by kernel_rfl) fun K hK => ?_
        go_simp
        refine hK.out _ _ ?_
        clear hK K
        (try simp only [aP, aZ, aS, aG, aH, aI])
        go_wp2_with fail
        go_roundw
        case rel => exact ⟨j + 1, hlt, by go_num, Lib.hid (SN.out.next (by (repeat' with_reducible first | assumption | exact bR | apply bD | apply bA | apply bC | apply bW | omega | simp <;> omega)))⟩
        case measure => simp [intOf] <;> omega
    · obtain rfl : j = M.length := by omega
      obtain ⟨q, hq⟩ : ∃ q, feasible r x = q := ⟨_, rfl⟩
      have HQ := Lib.hid hq
      obtain ⟨LK, hLK⟩ : ∃ L, onPal x k = L := ⟨_, rfl⟩
      have HLK := Lib.hid hLK
      rw [hLK] at hol
      clear hq hLK
      obtain ⟨⟨k0, k1, k2, k3, k4, k5, k6, k7, k8, k9⟩, p0, p1⟩ := K3.out _ SN.out.low
      go_wp2_with fail
      refine (sFeasible_any _ _ r x _ (HR.out.next SN.out.low) (HX.out.next SN.out.low) hL).mono ?_
      rintro e3 w6 ⟨rfl, hb⟩
      rw [HQ.out]
      have SN := Lib.hid (SN.out.next hb)
      clear hb
      clear k0 k1 k2 k3 k4 k5 k6 k7 k8 k9 p0 p1
      by_cases hgo : q = true ∧ 0 < M.length
      · obtain ⟨rfl, hM0⟩ := hgo
        obtain ⟨z, hz⟩ : ∃ z, M[0]? = some z := ⟨_, List.getElem?_eq_getElem hM0⟩
        obtain ⟨g6, rfl⟩ := head_ptr (SN.out.list (.head _)) hz
        have hzr := heights_range (k := k) HQ.out (by rw [HM.out]; exact List.mem_of_getElem? hz)
        have HC0 := Lib.hid (heights_least (k := k) HQ.out (by rw [HM.out]; exact hz))
        have HCT := Lib.hid (covered_top (k := k) HQ.out)
        have HZ := Lib.hid hz
        have hw1 : wrap64 (z - 1) = z - 1 := by unfold wrap64; omega
        have hw2 : IntKind.i64.wrap (z - 1) = z - 1 := by rw [wrapE]; exact hw1
        have hme : ((M.length : Int) == 0) = false := beq_eq_false_iff_ne.2 (by omega)
        have hmd : decide ((M.length : Int) = 0) = false := decide_eq_false (by omega)
        have hmi : (0 : Int) < (M.length : Int) := by omega
        have HCC := Lib.hid (show ∀ X : World, Below w6.heap.size w6 X → ((cS10 (X) (b3) (r) (.slice A1 r.pairs.length c1) (.slice A2 r.types.length c2) (.slice A3 r.items.length c3)) ∧ X.cell? ⟨b3 + 1, 0, none⟩ = some (.slice A7 zs2.length c7) ∧ X.cell? ⟨b3 + 1, 1, none⟩ = some (.slice A8 x.spots.length c8)) ∧ X.cell? ⟨g6, 0, none⟩ = some (.int .i64 z) from fun X hX => ⟨K3.out X (SN.out.next hX).low, by
          have q := ((SN.out.next hX).list (.head _)).cells (fun _ => rfl) HZ.out 0 (.int .i64 z) rfl
          rw [Nat.mul_one, Nat.add_zero] at q
          exact q⟩)
        clear hz
        go_wp2_with fail
        refine regu (S := (fun X => ((cS10 (X) (b3) (r) (.slice A1 r.pairs.length c1) (.slice A2 r.types.length c2) (.slice A3 r.items.length c3)) ∧ X.cell? ⟨b3 + 1, 0, none⟩ = some (.slice A7 zs2.length c7) ∧ X.cell? ⟨b3 + 1, 1, none⟩ = some (.slice A8 x.spots.length c8)) ∧ X.cell? ⟨g6, 0, none⟩ = some (.int .i64 z))) (by kernel_rfl) (fun _ _ _ _ _ => id) ?_ fun hHeld => ?_
        · (first | (refine HCC.out _ ?_; (repeat' with_reducible first | assumption | exact bR | apply bD | apply bA | apply bC | apply bW | omega | simp <;> omega); done) | go_keep)
        refine tku (b := ?_) [0, 1, 2, 3, 4, 5, 6] (by kernel_rfl) hHeld ?_ ?_
        rotate_left
        · repeat first
          | exact .nil
          | refine .yes (v := ?_) rfl (by rfl) ?_ ?_
            rotate_left
            · intro w9 hSw; (try dsimp only at hSw); go_simp; (try with_reducible rfl)
            (try simp only [aP, aZ, aS, aG, aH, aI])
        refine onu 7 rfl (by kernel_rfl) fun K hK => ?_
        go_simp
        ((go_at_call 28; refine (iCovered_any _ _ r x k (z - 1) _ (HR.out.next (SN.out.next (by (repeat' with_reducible first | assumption | exact bR | apply bD | apply bA | apply bC | apply bW | omega | simp <;> omega))).low) (HX.out.next (SN.out.next (by (repeat' with_reducible first | assumption | exact bR | apply bD | apply bA | apply bC | apply bW | omega | simp <;> omega))).low) hL).mono ?_; rintro e w7 ⟨rfl, hb7⟩; rw [HC0.out]; have hn7 := bstep (a := w6) (by (repeat' with_reducible first | assumption | exact bR | apply bD | apply bA | apply bC | apply bW | omega | simp <;> omega)) hb7))
        refine hK.out _ _ ?_ (fun hHeld => ?_)
        · (first | (refine HCC.out _ ?_; (repeat' with_reducible first | assumption | exact bR | apply bD | apply bA | apply bC | apply bW | omega | simp <;> omega); done) | go_keep)
        clear hK K
        (try simp only [aP, aZ, aS, aG, aH, aI])
        refine tku (b := ?_) [8, 9, 10, 11, 12, 13, 14, 15] (by kernel_rfl) hHeld ?_ ?_
        rotate_left
        · repeat first
          | exact .nil
          | refine .yes (v := ?_) rfl (by rfl) ?_ ?_
            rotate_left
            · intro w9 hSw; (try dsimp only at hSw); go_simp; (try with_reducible rfl)
            (try simp only [aP, aZ, aS, aG, aH, aI])
        refine onu 16 rfl (by kernel_rfl) fun K hK => ?_
        go_simp
        ((go_at_call 24; refine (iTop_any _ _ r x k _ (HR.out.next (SN.out.next (by (repeat' with_reducible first | assumption | exact bR | apply bD | apply bA | apply bC | apply bW | omega | simp <;> omega))).low) (HX.out.next (SN.out.next (by (repeat' with_reducible first | assumption | exact bR | apply bD | apply bA | apply bC | apply bW | omega | simp <;> omega))).low) hL).mono ?_; rintro e w8 ⟨rfl, hb8⟩; have hn8 := bstep (a := w6) (by (repeat' with_reducible first | assumption | exact bR | apply bD | apply bA | apply bC | apply bW | omega | simp <;> omega)) hb8))
        refine hK.out _ _ ?_ (fun hHeld => ?_)
        · (first | (refine HCC.out _ ?_; (repeat' with_reducible first | assumption | exact bR | apply bD | apply bA | apply bC | apply bW | omega | simp <;> omega); done) | go_keep)
        clear hK K
        (try simp only [aP, aZ, aS, aG, aH, aI])
        refine onu 17 rfl (by kernel_rfl) fun K hK => ?_
        go_simp
        ((go_at_call 28; refine (iCovered_any _ _ r x k (topR r x k) _ (HR.out.next (SN.out.next (by (repeat' with_reducible first | assumption | exact bR | apply bD | apply bA | apply bC | apply bW | omega | simp <;> omega))).low) (HX.out.next (SN.out.next (by (repeat' with_reducible first | assumption | exact bR | apply bD | apply bA | apply bC | apply bW | omega | simp <;> omega))).low) hL).mono ?_; rintro e w9 ⟨rfl, hb9⟩; rw [HCT.out]; have hn9 := bstep (a := w6) (by (repeat' with_reducible first | assumption | exact bR | apply bD | apply bA | apply bC | apply bW | omega | simp <;> omega)) hb9))
        refine hK.out _ _ ?_ (fun hHeld => ?_)
        · (first | (refine HCC.out _ ?_; (repeat' with_reducible first | assumption | exact bR | apply bD | apply bA | apply bC | apply bW | omega | simp <;> omega); done) | go_keep)
        clear hK K
        (try simp only [aP, aZ, aS, aG, aH, aI])
        refine tku (b := ?_) [18, 19] (by kernel_rfl) hHeld ?_ ?_
        rotate_left
        · repeat first
          | exact .nil
          | refine .yes (v := ?_) rfl (by rfl) ?_ ?_
            rotate_left
            · intro w9 hSw; (try dsimp only at hSw); go_simp; (try with_reducible rfl)
            (try simp only [aP, aZ, aS, aG, aH, aI])
        refine lsu 20 rfl (by kernel_rfl) fun K hK => ?_
        go_simp
        refine hK.out _ _ ?_
        clear hK K
        (try simp only [aP, aZ, aS, aG, aH, aI])
        go_wp2_with fail
        go_ret
        exact ⟨rfl, bstep HLW.out (SN.out.next (by (repeat' with_reducible first | assumption | exact bR | apply bD | apply bA | apply bC | apply bW | omega | simp <;> omega))).low⟩
      · have hMz : q = true → M.length = 0 := fun h => by rcases Nat.eq_zero_or_pos M.length with h0 | h0; exact h0; exact absurd ⟨h, h0⟩ hgo
        clear hgo
        cases q
        · obtain ⟨⟨k0, k1, k2, k3, k4, k5, k6, k7, k8, k9⟩, p0, p1⟩ := K3.out _ SN.out.low
          go_wp2_with fail
          refine (iOnPallet_any _ x k _ (HX.out.next SN.out.low)).mono ?_
          intro e4 w7 hm
          rw [HLK.out] at hm
          obtain ⟨v8, f8, rfl, SN1⟩ := SN.out.gotInts hm
          obtain ⟨A8', c8', rfl, _⟩ := (SN1.list (.head _)).form
          have SQ := Lib.hid SN1
          clear SN SN1 hm
          clear k0 k1 k2 k3 k4 k5 k6 k7 k8 k9 p0 p1
          have SN := SQ
          clear SQ
          by_cases hl0 : LK.length = 0
          · have hle : ((LK.length : Int) == 0) = true := beq_iff_eq.2 (by omega)
            have hld : decide ((LK.length : Int) = 0) = true := decide_eq_true (by omega)
            go_wp2
            go_ret
            exact ⟨rfl, bstep HLW.out SN.out.low⟩
          · have hle : ((LK.length : Int) == 0) = false := beq_eq_false_iff_ne.2 (by omega)
            have hld : decide ((LK.length : Int) = 0) = false := decide_eq_false (by omega)
            obtain ⟨⟨k0, k1, k2, k3, k4, k5, k6, k7, k8, k9⟩, p0, p1⟩ := K3.out _ SN.out.low
            go_wp2_with fail
            refine (sFeasible_any _ _ r x _ (HR.out.next SN.out.low) (HX.out.next SN.out.low) hL).mono ?_
            rintro e5 w8 ⟨rfl, hb⟩
            rw [HQ.out]
            have SN := Lib.hid (SN.out.next hb)
            go_wp2
            go_ret
            exact ⟨rfl, bstep HLW.out SN.out.low⟩
        · have hM0 := hMz rfl
          have hlk : LK = [] := by
            rw [← HLK.out]
            exact (heights_nil HQ.out).1 (by rw [HM.out]; exact List.eq_nil_of_length_eq_zero hM0)
          subst hlk
          have hme : ((M.length : Int) == 0) = true := beq_iff_eq.2 (by omega)
          have hmd : decide ((M.length : Int) = 0) = true := decide_eq_true (by omega)
          clear hM0 hMz
          obtain ⟨⟨k0, k1, k2, k3, k4, k5, k6, k7, k8, k9⟩, p0, p1⟩ := K3.out _ SN.out.low
          go_wp2_with fail
          refine (iOnPallet_any _ x k _ (HX.out.next SN.out.low)).mono ?_
          intro e4 w7 hm
          rw [HLK.out] at hm
          obtain ⟨v8, f8, rfl, SN1⟩ := SN.out.gotInts hm
          obtain ⟨A8', c8', rfl, _⟩ := (SN1.list (.head _)).form
          have SQ := Lib.hid SN1
          clear SN SN1 hm
          have SN := SQ
          go_wp2
          go_ret
          exact ⟨rfl, bstep HLW.out SN.out.low⟩
set_option maxRecDepth 100000 in
theorem FnHeights_lifted (os : Os) (started : os.Started) (H : Type) (enc : TypeId × Value → H) :
    ReturnsInHanded {} Tryz.checked os 15 .any (Rows.fnHeightsSpec.pre6 enc Tryz.prog Tryz.f15 Rows.fnHeightsRow.domain false) (Rows.fnHeightsSpec.post enc Tryz.prog Tryz.f15 false true false false) := by
  refine returnsInHanded_of_change (C := Tryz.checked) own_ started (by kernel_rfl) Tryz.func15
    (ChangeSpec.witness6 (enc := enc) (C := Tryz.checked) false ⟨#[], #[.slice none 0 0], []⟩ 8 (by kernel_rfl) (by kernel_rfl) (by kernel_rfl) (by kernel_rfl)) ?_
  intro W base args ds gs before hval0 hW hcnd _
  have hval : ∀ (j : Nat) t v, Tryz.f15.params[j]? = some t → args[j]? = some v → Value.okWide Tryz.prog W .any base t v := hval0
  have hW' := hW
  obtain ⟨p, q, hA0, hV, rfl, hfz, hnd⟩ := hW
  have hA : DataW.TrodAll enc Tryz.prog W 0 (fun _ => true) true Tryz.f15.params.toList args.toList ds p := hA0
  rw [Tryz.params15] at hA hval
  obtain ⟨v0, vs0, d0, ds0, p0, q0, hargs, rfl, rfl, h0, r0⟩ := trodAll_cons hA
  obtain ⟨rfl, rfl, rfl⟩ := trodAll_nil r0
  obtain rfl : args = #[v0] := by cases args; simp_all
  obtain ⟨rfl, rfl⟩ := trodVars_none hV
  clear hA0 hval0 hA
  simp only [List.append_nil] at hW'
  have hlt : ∀ x ∈ p0, x.block < W.heap.size := fun x hx => hW'.lt x (by simpa using hx)
  have k0 := h0
  have w0 := read_Bytes (hval 0 63 v0 rfl rfl) h0 (fun x hx => hlt x (by simp [hx]))
  refine (FnHeights_walk v0 W w0).mono fun e W' ⟨he, hb⟩ => ?_
  subst he
  exact ⟨_, rfl, post_of_below (pa := p0 ++ []) (pv := []) hW' (fun _ _ _ => (trodAll_cons_mk (shut_bool Tryz.underlying4 _) trodAll_mk0)) (fun sp hsp => (trodAll_cons_mk (stays laidOut_ (by kernel_rfl) (of_decide_eq_true (by kernel_rfl)) k0 hb (fun x hx => hlt x (by simp [hx])) (fun x hx => hsp x (by simp [hx]))) trodAll_mk0)) (fun _ _ => rfl) (by simp) hb
    (ok_one (by kernel_rfl) rfl (okWide_bool_mk Tryz.underlying4 _))⟩
theorem FnHeights_inPlace : (Rows.fnHeightsRow.inPlace == Tryz.prog.inPlace 15) = true := by kernel_rfl
theorem FnHeights_unfollowed : (Rows.fnHeightsRow.unfollowed == Tryz.prog.unfollowed 15) = true := by kernel_rfl
theorem FnHeights_recurses : (Rows.fnHeightsRow.recurses == Tryz.prog.recurses 15) = true := by kernel_rfl
theorem FnHeights_named : (Rows.fnHeightsRow.named == Tryz.prog.varsNamed 15) = true := by kernel_rfl
theorem FnHeights_closed : joinedFacts Tryz.prog 15 Tryz.f15 Rows.fnHeightsSpec Rows.fnHeightsRow = true := by
  unfold joinedFacts
  rw [laidOut_, fx_maps, fx_stops, fx_stopKnobs, fx_plain, fx_heard, fx_may, fx_lift, FnHeights_inPlace, FnHeights_unfollowed, FnHeights_recurses, FnHeights_named]
  kernel_rfl
theorem FnHeights_over : Rows.fnHeightsRow.holds Tryz.pinned (OpenSpec.ofChange Rows.fnHeightsSpec) :=
  OpenClaim.holds_of_wide 15 Tryz.f15 rfl rfl rfl rfl rfl rfl rfl ⟨rfl, rfl, rfl, rfl, rfl⟩ rfl rfl rfl rfl rfl (by kernel_rfl) Tryz.func15 FnHeights_closed
    (of_decide_eq_true (by kernel_rfl)) (by unfold Func.isWrapper; first | (rw [if_pos (by decide +kernel)]; kernel_rfl) | (rw [if_neg (by decide +kernel)]; exact ⟨rfl, rfl⟩))
    (fun os started H enc _ => FnHeights_lifted os started H enc)
theorem FnHeights_proved : Rows.FnHeightsSaid := FnHeights_over
end Go.Proofs.YtioijfplbgpjpaaGreat
