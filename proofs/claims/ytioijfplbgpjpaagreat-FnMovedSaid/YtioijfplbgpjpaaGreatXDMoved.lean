/-
  The law FnMoved: whatever the drawn bytes: what moved between the two drawn plans is what the reference tells, lies with others than before, is in both plans, ascends, and is the same the other way round.
-/
import Derived.Test.YtioijfplbgpjpaaGreatKm34
import Derived.Test.YtioijfplbgpjpaaGreatKm21
import Derived.Test.YtioijfplbgpjpaaGreatKm22
import Derived.Test.YtioijfplbgpjpaaGreatKm16
import Derived.Test.YtioijfplbgpjpaaGreatKm32
import Derived.Deep.RegionHeld3
import Derived.Deep.DeepCutAuto
namespace Go.Proofs.YtioijfplbgpjpaaGreat
set_option linter.unusedVariables false
set_option linter.unusedSimpArgs false
set_option maxRecDepth 100000
open Go.RowKit Go.WideShapes Go.ChangeShapes Go.ChangeAt Go.Deep
open Go.ChangeMaps (open_string shut_string)
set_option maxRecDepth 100000 in
set_option maxHeartbeats 40000000 in
theorem FnMoved_walk (v : Value) (w : World) (h : ∃ xs, RByts 9223372036854775807 w v xs) : Calls Tryz.prog 8 #[v] w fun e w' => e = .returned (.bool true) ∧ Below w.heap.size w w' := by
  obtain ⟨xs, h⟩ := h
  have HV := Lib.hid h
  clear h
  obtain ⟨bg, hbg⟩ : ∃ b, decide (1048576 < xs.length) = b := ⟨_, rfl⟩
  have HG := Lib.hid hbg
  clear hbg
  go_enter Tryz.func8, Tryz.ntmps8
  go_wp2_with fail
  refine (big_any v xs _ HV.out).mono ?_
  rintro e w' ⟨rfl, rfl⟩
  rw [HG.out]
  cases bg
  case true =>
    go_wp2_with fail
    go_ret
    exact ⟨rfl, Below.refl _ _⟩
  have HB := Lib.hid (HV.out.plain (by have := HG.out; simp at this; omega))
  go_wp2_with fail
  refine (DrawMoved_any v xs _ _ _ (Sit.here w) HB.out).mono ?_
  rintro e w1 ⟨vc, vs, x, fq, vd, vt, y, fr, rfl, SN1, hsx, hsy⟩
  obtain ⟨zs3, hz3, ⟨A4, c4, rfl, _⟩, _, ⟨A5, c5, rfl, _⟩⟩ := RpOn.open (SN1.on _ (.head _))
  obtain ⟨zs2, hz2, ⟨A7, c7, rfl, _⟩, _, ⟨A8, c8, rfl, _⟩⟩ := RpOn.open (SN1.on _ (.tail _ (.head _)))
  have hbx := hsx.bulk
  have hby := hsy.bulk
  have HX := Lib.hid (show ∀ (W : World) (L : List Fact), Sit w W L → fRp (.slice A7 zs2.length c7) (.slice A8 x.spots.length c8) x fq ∈ L → RPlan 16777216 W W.heap.size (.agg #[.slice A7 zs2.length c7, .slice A8 x.spots.length c8]) x from fun W L h hm => h.rp hm (by have := hsx.cartons; omega) (fun c hc => by have := hsx.units c hc; omega) (by have := hsx.spots; omega))
  have HY := Lib.hid (show ∀ (W : World) (L : List Fact), Sit w W L → fRp (.slice A4 zs3.length c4) (.slice A5 y.spots.length c5) y fr ∈ L → RPlan 16777216 W W.heap.size (.agg #[.slice A4 zs3.length c4, .slice A5 y.spots.length c5]) y from fun W L h hm => h.rp hm (by have := hsy.cartons; omega) (fun c hc => by have := hsy.units c hc; omega) (by have := hsy.spots; omega))
  clear hz2 hz3 hsx hsy
  have SN := Lib.hid ((SN1.alloc #[.slice A7 zs2.length c7, .slice A8 x.spots.length c8] 46).alloc #[.slice A4 zs3.length c4, .slice A5 y.spots.length c5] 46)
  simp only [World.size_alloc] at SN
  clear SN1
  obtain ⟨b3, hb3⟩ : ∃ b, w1.heap.size = b := ⟨_, rfl⟩
  rw [hb3] at SN
  go_upto_region 4 with fail
  generalize (w1.alloc (.cells #[.slice A7 zs2.length c7, .slice A8 x.spots.length c8] 46)).alloc (.cells #[.slice A4 zs3.length c4, .slice A5 y.spots.length c5] 46) = W2 at SN ⊢
  clear hb3
  have k3 := SN.out.box (g := b3) (cs := #[.slice A7 zs2.length c7, .slice A8 x.spots.length c8]) (t := 46) (by repeat (first | with_reducible exact List.mem_cons_self | with_reducible exact List.Mem.head _ | refine List.Mem.tail _ ?_))
  have k4 := SN.out.box (g := b3 + 1) (cs := #[.slice A4 zs3.length c4, .slice A5 y.spots.length c5]) (t := 46) (by repeat (first | with_reducible exact List.mem_cons_self | with_reducible exact List.Mem.head _ | refine List.Mem.tail _ ?_))
  have hml := mov_len x y
  have hml2 := mov_len y x
  have HML := Lib.hid hml
  obtain ⟨M, hM⟩ : ∃ M, mov x y = M := ⟨_, rfl⟩
  have HM := Lib.hid hM
  have HC := Lib.hid (mov_comm x y)
  have hMl : M.length ≤ 10200 := by rw [← hM]; omega
  clear hml hml2 hM
  go_wp2_with fail
  refine (iMoved_any _ _ x y _ (HX.out _ _ SN.out (by repeat (first | with_reducible exact List.mem_cons_self | with_reducible exact List.Mem.head _ | refine List.Mem.tail _ ?_))) (HY.out _ _ SN.out (by repeat (first | with_reducible exact List.mem_cons_self | with_reducible exact List.Mem.head _ | refine List.Mem.tail _ ?_))) (by omega) (by omega)).mono ?_
  rw [HM.out]
  intro e w3 hm
  obtain ⟨v6, f6, rfl, SN1⟩ := SN.out.gotInts hm
  obtain ⟨A6, c6, rfl, _⟩ := (SN1.list (.head _)).form
  have SQ := Lib.hid SN1
  clear SN SN1 hm k3 k4
  have SN := SQ
  clear SQ
  have k3 := SN.out.box (g := b3) (cs := #[.slice A7 zs2.length c7, .slice A8 x.spots.length c8]) (t := 46) (by repeat (first | with_reducible exact List.mem_cons_self | with_reducible exact List.Mem.head _ | refine List.Mem.tail _ ?_))
  have k4 := SN.out.box (g := b3 + 1) (cs := #[.slice A4 zs3.length c4, .slice A5 y.spots.length c5]) (t := 46) (by repeat (first | with_reducible exact List.mem_cons_self | with_reducible exact List.Mem.head _ | refine List.Mem.tail _ ?_))
  go_wp2_with fail
  refine (sMoved_any _ _ x y _ (HX.out _ _ SN.out (by repeat (first | with_reducible exact List.mem_cons_self | with_reducible exact List.Mem.head _ | refine List.Mem.tail _ ?_))) (HY.out _ _ SN.out (by repeat (first | with_reducible exact List.mem_cons_self | with_reducible exact List.Mem.head _ | refine List.Mem.tail _ ?_))) (by omega) (by omega)).mono ?_
  rw [HM.out]
  intro e w4 hm
  obtain ⟨v7, f7, rfl, SN1⟩ := SN.out.gotInts hm
  obtain ⟨A9, c9, rfl, _⟩ := (SN1.list (.head _)).form
  have SQ := Lib.hid SN1
  clear SN SN1 hm k3 k4
  have SN := SQ
  clear SQ
  go_wp2_with fail
  refine (sameInts_any _ _ M M _ (OInts.read (SN.out.list (.tail _ (.head _))) (by omega)) (OInts.read (SN.out.list (.head _)) (by omega))).mono ?_
  rintro e w5 ⟨rfl, hb5⟩
  rw [show decide (M = M) = true from decide_eq_true rfl]
  have SQ := Lib.hid ((SN.out.next hb5).drop)
  clear SN hb5
  have SN := SQ
  clear SQ
  go_wp2_with fail
  go_loopw [6] (fun i wr => ∃ k : Nat, k ≤ M.length ∧ i = .int .i64 k ∧ Hid (Sit w wr [fOF cI 3 1 w.heap.size (.slice A6 M.length c6) M f6, fBox (b3 + 1) #[.slice A4 zs3.length c4, .slice A5 y.spots.length c5] 46, fBox b3 #[.slice A7 zs2.length c7, .slice A8 x.spots.length c8] 46, fRp (.slice A4 zs3.length c4) (.slice A5 y.spots.length c5) y fr, fRp (.slice A7 zs2.length c7) (.slice A8 x.spots.length c8) x fq])) (fun i _ => M.length - (intOf i).toNat)
  case atStart => exact ⟨0, Nat.zero_le _, rfl, SN⟩
  case round =>
    clear SN
    obtain ⟨k, hk, rfl, SN⟩ := hrel
    by_cases hlt : k < M.length
    · obtain ⟨u, hu⟩ : ∃ u, M[k]? = some u := ⟨_, List.getElem?_eq_getElem hlt⟩
      obtain ⟨g6, c6', hv6, _, _⟩ := (SN.out.list (.head _)).some hu
      injection hv6 with e1 e2 e3
      subst e1 e3
      have HU := Lib.hid hu
      obtain ⟨q1, q2, q3⟩ := mov_at (a := x) (b := y) (by rw [HM.out]; exact hu)
      have HQ := Lib.hid q1
      obtain ⟨ca, hca⟩ : ∃ z, cwith x.cartons u = z := ⟨_, rfl⟩
      obtain ⟨cb, hcb⟩ : ∃ z, cwith y.cartons u = z := ⟨_, rfl⟩
      rw [hca] at q2
      rw [hcb] at q3
      have HCA := Lib.hid hca
      have HCB := Lib.hid hcb
      have hta := tog_len x u
      have htb := tog_len y u
      have HTL := Lib.hid (show (tog x u).length ≤ 16777216 ∧ (tog y u).length ≤ 16777216 by omega)
      have hqa : decide (ca < 0) = false := decide_eq_false q2
      have hqb : decide (cb < 0) = false := decide_eq_false q3
      clear hu q1 hca hcb hta htb q2 q3
      have k3 := SN.out.box (g := b3) (cs := #[.slice A7 zs2.length c7, .slice A8 x.spots.length c8]) (t := 46) (by repeat (first | with_reducible exact List.mem_cons_self | with_reducible exact List.Mem.head _ | refine List.Mem.tail _ ?_)); have k4 := SN.out.box (g := b3 + 1) (cs := #[.slice A4 zs3.length c4, .slice A5 y.spots.length c5]) (t := 46) (by repeat (first | with_reducible exact List.mem_cons_self | with_reducible exact List.Mem.head _ | refine List.Mem.tail _ ?_)); have hlc := (SN.out.list (f := cI) (K := 1) (base := w.heap.size) (e := 3) (v := .slice (some ⟨g6, 0, none⟩) M.length c6) (xs := M) (fp := f6) (by repeat (first | with_reducible exact List.mem_cons_self | with_reducible exact List.Mem.head _ | refine List.Mem.tail _ ?_))).cells (fun _ => rfl) HU.out 0 (.int .i64 u) rfl; simp only [Nat.mul_one, Nat.add_zero] at hlc
      rcases Nat.eq_zero_or_pos k with hk0 | hk0
      · subst hk0
        go_wp2_with fail
        refine wp_region_S (S := (fun W' => W'.cell? ⟨b3, 0, none⟩ = some (.slice A7 zs2.length c7) ∧ W'.cell? ⟨b3, 1, none⟩ = some (.slice A8 x.spots.length c8) ∧ W'.cell? ⟨b3 + 1, 0, none⟩ = some (.slice A4 zs3.length c4) ∧ W'.cell? ⟨b3 + 1, 1, none⟩ = some (.slice A5 y.spots.length c5) ∧ W'.cell? ⟨g6, 0, none⟩ = some (.int .i64 u))) (by kernel_rfl) ?_ (fun hHeld => ?_)
        · (first | exact ⟨k3 0, k3 1, k4 0, k4 1, hlc⟩ | go_keep)
        refine wpS_take (i := 0) (v := ?_) rfl (by kernel_rfl) (fun _ _ _ h => h) (Or.inl ⟨by rfl, ?_⟩) (by assumption) ?_
        rotate_left
        · (intro w9 hSw; (try dsimp only at hSw); go_simp; (try with_reducible rfl))
        (try simp only [Act.put, List.getElem_toArray, List.getElem_cons_zero, List.getElem_cons_succ, List.setIfInBounds_toArray, List.set_cons_zero, List.set_cons_succ])
        refine wpS_take (i := 1) (v := ?_) rfl (by kernel_rfl) (fun _ _ _ h => h) (Or.inl ⟨by rfl, ?_⟩) (by assumption) ?_
        rotate_left
        · (intro w9 hSw; (try dsimp only at hSw); go_simp; (try with_reducible rfl))
        (try simp only [Act.put, List.getElem_toArray, List.getElem_cons_zero, List.getElem_cons_succ, List.setIfInBounds_toArray, List.set_cons_zero, List.set_cons_succ])
        refine wpS_take (i := 2) (v := ?_) rfl (by kernel_rfl) (fun _ _ _ h => h) (Or.inl ⟨by rfl, ?_⟩) (by assumption) ?_
        rotate_left
        · (intro w9 hSw; (try dsimp only at hSw); go_simp; (try with_reducible rfl))
        (try simp only [Act.put, List.getElem_toArray, List.getElem_cons_zero, List.getElem_cons_succ, List.setIfInBounds_toArray, List.set_cons_zero, List.set_cons_succ])
        refine wpS_take (i := 3) (v := ?_) rfl (by kernel_rfl) (fun _ _ _ h => h) (Or.inl ⟨by rfl, ?_⟩) (by assumption) ?_
        rotate_left
        · (intro w9 hSw; (try dsimp only at hSw); go_simp; (try with_reducible rfl))
        (try simp only [Act.put, List.getElem_toArray, List.getElem_cons_zero, List.getElem_cons_succ, List.setIfInBounds_toArray, List.set_cons_zero, List.set_cons_succ])
        refine wpS_take (i := 4) (v := ?_) rfl (by kernel_rfl) (fun _ _ _ h => h) (Or.inl ⟨by rfl, ?_⟩) (by assumption) ?_
        rotate_left
        · (intro w9 hSw; (try dsimp only at hSw); go_simp; (try with_reducible rfl))
        (try simp only [Act.put, List.getElem_toArray, List.getElem_cons_zero, List.getElem_cons_succ, List.setIfInBounds_toArray, List.set_cons_zero, List.set_cons_succ])
        refine wpS_take (i := 6) (v := ?_) rfl (by kernel_rfl) (fun _ _ _ h => h) (Or.inl ⟨by rfl, ?_⟩) (by assumption) ?_
        rotate_left
        · (intro w9 hSw; (try dsimp only at hSw); go_simp; (try with_reducible rfl))
        (try simp only [Act.put, List.getElem_toArray, List.getElem_cons_zero, List.getElem_cons_succ, List.setIfInBounds_toArray, List.set_cons_zero, List.set_cons_succ])
        refine wpS_take (i := 7) (v := ?_) rfl (by kernel_rfl) (fun _ _ _ h => h) (Or.inl ⟨by rfl, ?_⟩) (by assumption) ?_
        rotate_left
        · (intro w9 hSw; (try dsimp only at hSw); go_simp; (try with_reducible rfl))
        (try simp only [Act.put, List.getElem_toArray, List.getElem_cons_zero, List.getElem_cons_succ, List.setIfInBounds_toArray, List.set_cons_zero, List.set_cons_succ])
        refine wpS_take (i := 8) (v := ?_) rfl (by kernel_rfl) (fun _ _ _ h => h) (Or.inl ⟨by rfl, ?_⟩) (by assumption) ?_
        rotate_left
        · (intro w9 hSw; (try dsimp only at hSw); go_simp; (try with_reducible rfl))
        (try simp only [Act.put, List.getElem_toArray, List.getElem_cons_zero, List.getElem_cons_succ, List.setIfInBounds_toArray, List.set_cons_zero, List.set_cons_succ])
        refine wpS_take (i := 9) (v := ?_) rfl (by kernel_rfl) (fun _ _ _ h => h) (Or.inl ⟨by rfl, ?_⟩) (by assumption) ?_
        rotate_left
        · (intro w9 hSw; (try dsimp only at hSw); go_simp; (try with_reducible rfl))
        (try simp only [Act.put, List.getElem_toArray, List.getElem_cons_zero, List.getElem_cons_succ, List.setIfInBounds_toArray, List.set_cons_zero, List.set_cons_succ])
        refine wpS_take (i := 10) (v := ?_) rfl (by kernel_rfl) (fun _ _ _ h => h) (Or.inl ⟨by rfl, ?_⟩) (by assumption) ?_
        rotate_left
        · (intro w9 hSw; (try dsimp only at hSw); go_simp; (try with_reducible rfl))
        (try simp only [Act.put, List.getElem_toArray, List.getElem_cons_zero, List.getElem_cons_succ, List.setIfInBounds_toArray, List.set_cons_zero, List.set_cons_succ])
        refine wpS_ready (rs := [5]) (by kernel_rfl) (by simp) ?_
        refine AllReadyS.cons rfl (by kernel_rfl) (fun K hK => ?_) AllReadyS.nil
        go_simp
        ((go_at_call 48; (first | with_reducible refine Sit.calls0 SN.out (fun SN0 => ?_) | with_reducible refine Sit.calls1 SN.out (fun SN0 => ?_) | with_reducible refine Sit.calls2 SN.out (fun SN0 => ?_) | with_reducible refine Sit.calls0d SN.out (fun SN0 => ?_) | with_reducible refine Sit.calls1d SN.out (fun SN0 => ?_) | with_reducible refine Sit.calls2d SN.out (fun SN0 => ?_)); (try simp only [World.size_alloc, World.size_drew] at SN0); refine (iTogether_any (.agg #[.slice A7 zs2.length c7, .slice A8 x.spots.length c8]) x u _ (HX.out _ _ SN0 (by repeat (first | with_reducible exact List.mem_cons_self | with_reducible exact List.Mem.head _ | refine List.Mem.tail _ ?_))) (by omega)).mono ?_; intro e w9 hm; obtain ⟨v9, f9, rfl, SN1⟩ := SN0.gotInts hm; have SN2 := Lib.hid SN1; clear SN SN0 SN1 hm k3 k4 hlc; have SN := SN2; clear SN2; have k3 := SN.out.box (g := b3) (cs := #[.slice A7 zs2.length c7, .slice A8 x.spots.length c8]) (t := 46) (by repeat (first | with_reducible exact List.mem_cons_self | with_reducible exact List.Mem.head _ | refine List.Mem.tail _ ?_)); have k4 := SN.out.box (g := b3 + 1) (cs := #[.slice A4 zs3.length c4, .slice A5 y.spots.length c5]) (t := 46) (by repeat (first | with_reducible exact List.mem_cons_self | with_reducible exact List.Mem.head _ | refine List.Mem.tail _ ?_)); have hlc := (SN.out.list (f := cI) (K := 1) (base := w.heap.size) (e := 3) (v := .slice (some ⟨g6, 0, none⟩) M.length c6) (xs := M) (fp := f6) (by repeat (first | with_reducible exact List.mem_cons_self | with_reducible exact List.Mem.head _ | refine List.Mem.tail _ ?_))).cells (fun _ => rfl) HU.out 0 (.int .i64 u) rfl; simp only [Nat.mul_one, Nat.add_zero] at hlc))
        refine hK.out _ _ ?_ (fun hHeld => ?_)
        · (first | exact ⟨k3 0, k3 1, k4 0, k4 1, hlc⟩ | go_keep)
        clear hK K
        (try simp only [Act.put, List.getElem_toArray, List.getElem_cons_zero, List.getElem_cons_succ, List.setIfInBounds_toArray, List.set_cons_zero, List.set_cons_succ])
        refine wpS_ready (rs := [11]) (by kernel_rfl) (by simp) ?_
        refine AllReadyS.cons rfl (by kernel_rfl) (fun K hK => ?_) AllReadyS.nil
        go_simp
        ((go_at_call 48; (first | with_reducible refine Sit.calls0 SN.out (fun SN0 => ?_) | with_reducible refine Sit.calls1 SN.out (fun SN0 => ?_) | with_reducible refine Sit.calls2 SN.out (fun SN0 => ?_) | with_reducible refine Sit.calls0d SN.out (fun SN0 => ?_) | with_reducible refine Sit.calls1d SN.out (fun SN0 => ?_) | with_reducible refine Sit.calls2d SN.out (fun SN0 => ?_)); (try simp only [World.size_alloc, World.size_drew] at SN0); refine (iTogether_any (.agg #[.slice A4 zs3.length c4, .slice A5 y.spots.length c5]) y u _ (HY.out _ _ SN0 (by repeat (first | with_reducible exact List.mem_cons_self | with_reducible exact List.Mem.head _ | refine List.Mem.tail _ ?_))) (by omega)).mono ?_; intro e w9 hm; obtain ⟨v10, f10, rfl, SN1⟩ := SN0.gotInts hm; have SN2 := Lib.hid SN1; clear SN SN0 SN1 hm k3 k4 hlc; have SN := SN2; clear SN2; have k3 := SN.out.box (g := b3) (cs := #[.slice A7 zs2.length c7, .slice A8 x.spots.length c8]) (t := 46) (by repeat (first | with_reducible exact List.mem_cons_self | with_reducible exact List.Mem.head _ | refine List.Mem.tail _ ?_)); have k4 := SN.out.box (g := b3 + 1) (cs := #[.slice A4 zs3.length c4, .slice A5 y.spots.length c5]) (t := 46) (by repeat (first | with_reducible exact List.mem_cons_self | with_reducible exact List.Mem.head _ | refine List.Mem.tail _ ?_)); have hlc := (SN.out.list (f := cI) (K := 1) (base := w.heap.size) (e := 3) (v := .slice (some ⟨g6, 0, none⟩) M.length c6) (xs := M) (fp := f6) (by repeat (first | with_reducible exact List.mem_cons_self | with_reducible exact List.Mem.head _ | refine List.Mem.tail _ ?_))).cells (fun _ => rfl) HU.out 0 (.int .i64 u) rfl; simp only [Nat.mul_one, Nat.add_zero] at hlc))
        refine hK.out _ _ ?_ (fun hHeld => ?_)
        · (first | exact ⟨k3 0, k3 1, k4 0, k4 1, hlc⟩ | go_keep)
        clear hK K
        (try simp only [Act.put, List.getElem_toArray, List.getElem_cons_zero, List.getElem_cons_succ, List.setIfInBounds_toArray, List.set_cons_zero, List.set_cons_succ])
        refine wpS_ready (rs := [12]) (by kernel_rfl) (by simp) ?_
        refine AllReadyS.cons rfl (by kernel_rfl) (fun K hK => ?_) AllReadyS.nil
        go_simp
        ((go_at_call 46; (first | with_reducible refine Sit.calls0 SN.out (fun SN0 => ?_) | with_reducible refine Sit.calls1 SN.out (fun SN0 => ?_) | with_reducible refine Sit.calls2 SN.out (fun SN0 => ?_) | with_reducible refine Sit.calls0d SN.out (fun SN0 => ?_) | with_reducible refine Sit.calls1d SN.out (fun SN0 => ?_) | with_reducible refine Sit.calls2d SN.out (fun SN0 => ?_)); (try simp only [World.size_alloc, World.size_drew] at SN0); refine (sameInts_any _ _ (tog x u) (tog y u) _ (OInts.read (SN0.list (by repeat (first | with_reducible exact List.mem_cons_self | with_reducible exact List.Mem.head _ | refine List.Mem.tail _ ?_))) HTL.out.1) (OInts.read (SN0.list (by repeat (first | with_reducible exact List.mem_cons_self | with_reducible exact List.Mem.head _ | refine List.Mem.tail _ ?_))) HTL.out.2)).mono ?_; rintro e w10 ⟨rfl, hb10⟩; rw [HQ.out]; have SN2 := Lib.hid (SN0.next hb10); clear SN SN0 hb10 k3 k4 hlc; have SN := SN2; clear SN2; have k3 := SN.out.box (g := b3) (cs := #[.slice A7 zs2.length c7, .slice A8 x.spots.length c8]) (t := 46) (by repeat (first | with_reducible exact List.mem_cons_self | with_reducible exact List.Mem.head _ | refine List.Mem.tail _ ?_)); have k4 := SN.out.box (g := b3 + 1) (cs := #[.slice A4 zs3.length c4, .slice A5 y.spots.length c5]) (t := 46) (by repeat (first | with_reducible exact List.mem_cons_self | with_reducible exact List.Mem.head _ | refine List.Mem.tail _ ?_)); have hlc := (SN.out.list (f := cI) (K := 1) (base := w.heap.size) (e := 3) (v := .slice (some ⟨g6, 0, none⟩) M.length c6) (xs := M) (fp := f6) (by repeat (first | with_reducible exact List.mem_cons_self | with_reducible exact List.Mem.head _ | refine List.Mem.tail _ ?_))).cells (fun _ => rfl) HU.out 0 (.int .i64 u) rfl; simp only [Nat.mul_one, Nat.add_zero] at hlc))
        refine hK.out _ _ ?_ (fun hHeld => ?_)
        · (first | exact ⟨k3 0, k3 1, k4 0, k4 1, hlc⟩ | go_keep)
        clear hK K
        (try simp only [Act.put, List.getElem_toArray, List.getElem_cons_zero, List.getElem_cons_succ, List.setIfInBounds_toArray, List.set_cons_zero, List.set_cons_succ])
        refine wpS_take (i := 13) (v := ?_) rfl (by kernel_rfl) (fun _ _ _ h => h) (Or.inl ⟨by rfl, ?_⟩) (by assumption) ?_
        rotate_left
        · (intro w9 hSw; (try dsimp only at hSw); go_simp; (try with_reducible rfl))
        (try simp only [Act.put, List.getElem_toArray, List.getElem_cons_zero, List.getElem_cons_succ, List.setIfInBounds_toArray, List.set_cons_zero, List.set_cons_succ])
        refine wpS_take (i := 14) (v := ?_) rfl (by kernel_rfl) (fun _ _ _ h => h) (Or.inl ⟨by rfl, ?_⟩) (by assumption) ?_
        rotate_left
        · (intro w9 hSw; (try dsimp only at hSw); go_simp; (try with_reducible rfl))
        (try simp only [Act.put, List.getElem_toArray, List.getElem_cons_zero, List.getElem_cons_succ, List.setIfInBounds_toArray, List.set_cons_zero, List.set_cons_succ])
        refine wpS_take (i := 15) (v := ?_) rfl (by kernel_rfl) (fun _ _ _ h => h) (Or.inl ⟨by rfl, ?_⟩) (by assumption) ?_
        rotate_left
        · (intro w9 hSw; (try dsimp only at hSw); go_simp; (try with_reducible rfl))
        (try simp only [Act.put, List.getElem_toArray, List.getElem_cons_zero, List.getElem_cons_succ, List.setIfInBounds_toArray, List.set_cons_zero, List.set_cons_succ])
        refine wpS_take (i := 16) (v := ?_) rfl (by kernel_rfl) (fun _ _ _ h => h) (Or.inl ⟨by rfl, ?_⟩) (by assumption) ?_
        rotate_left
        · (intro w9 hSw; (try dsimp only at hSw); go_simp; (try with_reducible rfl))
        (try simp only [Act.put, List.getElem_toArray, List.getElem_cons_zero, List.getElem_cons_succ, List.setIfInBounds_toArray, List.set_cons_zero, List.set_cons_succ])
        refine wpS_take (i := 17) (v := ?_) rfl (by kernel_rfl) (fun _ _ _ h => h) (Or.inl ⟨by rfl, ?_⟩) (by assumption) ?_
        rotate_left
        · (intro w9 hSw; (try dsimp only at hSw); go_simp; (try with_reducible rfl))
        (try simp only [Act.put, List.getElem_toArray, List.getElem_cons_zero, List.getElem_cons_succ, List.setIfInBounds_toArray, List.set_cons_zero, List.set_cons_succ])
        refine wpS_take (i := 18) (v := ?_) rfl (by kernel_rfl) (fun _ _ _ h => h) (Or.inl ⟨by rfl, ?_⟩) (by assumption) ?_
        rotate_left
        · (intro w9 hSw; (try dsimp only at hSw); go_simp; (try with_reducible rfl))
        (try simp only [Act.put, List.getElem_toArray, List.getElem_cons_zero, List.getElem_cons_succ, List.setIfInBounds_toArray, List.set_cons_zero, List.set_cons_succ])
        refine wpS_ready (rs := [19]) (by kernel_rfl) (by simp) ?_
        refine AllReadyS.cons rfl (by kernel_rfl) (fun K hK => ?_) AllReadyS.nil
        go_simp
        ((go_at_call 49; (first | with_reducible refine Sit.calls0 SN.out (fun SN0 => ?_) | with_reducible refine Sit.calls1 SN.out (fun SN0 => ?_) | with_reducible refine Sit.calls2 SN.out (fun SN0 => ?_) | with_reducible refine Sit.calls0d SN.out (fun SN0 => ?_) | with_reducible refine Sit.calls1d SN.out (fun SN0 => ?_) | with_reducible refine Sit.calls2d SN.out (fun SN0 => ?_)); (try simp only [World.size_alloc, World.size_drew] at SN0); refine (iCartonWith_any (.agg #[.slice A7 zs2.length c7, .slice A8 x.spots.length c8]) x u _ (HX.out _ _ SN0 (by repeat (first | with_reducible exact List.mem_cons_self | with_reducible exact List.Mem.head _ | refine List.Mem.tail _ ?_)))).mono ?_; rintro e w11 ⟨rfl, hb11⟩; rw [HCA.out]; have SN2 := Lib.hid (SN0.next hb11); clear SN SN0 hb11 k3 k4 hlc; have SN := SN2; clear SN2; have k3 := SN.out.box (g := b3) (cs := #[.slice A7 zs2.length c7, .slice A8 x.spots.length c8]) (t := 46) (by repeat (first | with_reducible exact List.mem_cons_self | with_reducible exact List.Mem.head _ | refine List.Mem.tail _ ?_)); have k4 := SN.out.box (g := b3 + 1) (cs := #[.slice A4 zs3.length c4, .slice A5 y.spots.length c5]) (t := 46) (by repeat (first | with_reducible exact List.mem_cons_self | with_reducible exact List.Mem.head _ | refine List.Mem.tail _ ?_)); have hlc := (SN.out.list (f := cI) (K := 1) (base := w.heap.size) (e := 3) (v := .slice (some ⟨g6, 0, none⟩) M.length c6) (xs := M) (fp := f6) (by repeat (first | with_reducible exact List.mem_cons_self | with_reducible exact List.Mem.head _ | refine List.Mem.tail _ ?_))).cells (fun _ => rfl) HU.out 0 (.int .i64 u) rfl; simp only [Nat.mul_one, Nat.add_zero] at hlc))
        refine hK.out _ _ ?_ (fun hHeld => ?_)
        · (first | exact ⟨k3 0, k3 1, k4 0, k4 1, hlc⟩ | go_keep)
        clear hK K
        (try simp only [Act.put, List.getElem_toArray, List.getElem_cons_zero, List.getElem_cons_succ, List.setIfInBounds_toArray, List.set_cons_zero, List.set_cons_succ])
        refine wpS_take (i := 20) (v := ?_) rfl (by kernel_rfl) (fun _ _ _ h => h) (Or.inl ⟨by rfl, ?_⟩) (by assumption) ?_
        rotate_left
        · (intro w9 hSw; (try dsimp only at hSw); go_simp; (try with_reducible rfl))
        (try simp only [Act.put, List.getElem_toArray, List.getElem_cons_zero, List.getElem_cons_succ, List.setIfInBounds_toArray, List.set_cons_zero, List.set_cons_succ])
        refine wpS_take (i := 21) (v := ?_) rfl (by kernel_rfl) (fun _ _ _ h => h) (Or.inl ⟨by rfl, ?_⟩) (by assumption) ?_
        rotate_left
        · (intro w9 hSw; (try dsimp only at hSw); go_simp; (try with_reducible rfl))
        (try simp only [Act.put, List.getElem_toArray, List.getElem_cons_zero, List.getElem_cons_succ, List.setIfInBounds_toArray, List.set_cons_zero, List.set_cons_succ])
        refine wpS_take (i := 22) (v := ?_) rfl (by kernel_rfl) (fun _ _ _ h => h) (Or.inl ⟨by rfl, ?_⟩) (by assumption) ?_
        rotate_left
        · (intro w9 hSw; (try dsimp only at hSw); go_simp; (try with_reducible rfl))
        (try simp only [Act.put, List.getElem_toArray, List.getElem_cons_zero, List.getElem_cons_succ, List.setIfInBounds_toArray, List.set_cons_zero, List.set_cons_succ])
        refine wpS_take (i := 23) (v := ?_) rfl (by kernel_rfl) (fun _ _ _ h => h) (Or.inl ⟨by rfl, ?_⟩) (by assumption) ?_
        rotate_left
        · (intro w9 hSw; (try dsimp only at hSw); go_simp; (try with_reducible rfl))
        (try simp only [Act.put, List.getElem_toArray, List.getElem_cons_zero, List.getElem_cons_succ, List.setIfInBounds_toArray, List.set_cons_zero, List.set_cons_succ])
        refine wpS_take (i := 24) (v := ?_) rfl (by kernel_rfl) (fun _ _ _ h => h) (Or.inl ⟨by rfl, ?_⟩) (by assumption) ?_
        rotate_left
        · (intro w9 hSw; (try dsimp only at hSw); go_simp; (try with_reducible rfl))
        (try simp only [Act.put, List.getElem_toArray, List.getElem_cons_zero, List.getElem_cons_succ, List.setIfInBounds_toArray, List.set_cons_zero, List.set_cons_succ])
        refine wpS_take (i := 25) (v := ?_) rfl (by kernel_rfl) (fun _ _ _ h => h) (Or.inl ⟨by rfl, ?_⟩) (by assumption) ?_
        rotate_left
        · (intro w9 hSw; (try dsimp only at hSw); go_simp; (try with_reducible rfl))
        (try simp only [Act.put, List.getElem_toArray, List.getElem_cons_zero, List.getElem_cons_succ, List.setIfInBounds_toArray, List.set_cons_zero, List.set_cons_succ])
        refine wpS_take (i := 26) (v := ?_) rfl (by kernel_rfl) (fun _ _ _ h => h) (Or.inl ⟨by rfl, ?_⟩) (by assumption) ?_
        rotate_left
        · (intro w9 hSw; (try dsimp only at hSw); go_simp; (try with_reducible rfl))
        (try simp only [Act.put, List.getElem_toArray, List.getElem_cons_zero, List.getElem_cons_succ, List.setIfInBounds_toArray, List.set_cons_zero, List.set_cons_succ])
        refine wpS_take (i := 27) (v := ?_) rfl (by kernel_rfl) (fun _ _ _ h => h) (Or.inl ⟨by rfl, ?_⟩) (by assumption) ?_
        rotate_left
        · (intro w9 hSw; (try dsimp only at hSw); go_simp; (try with_reducible rfl))
        (try simp only [Act.put, List.getElem_toArray, List.getElem_cons_zero, List.getElem_cons_succ, List.setIfInBounds_toArray, List.set_cons_zero, List.set_cons_succ])
        refine wpS_ready (rs := [28]) (by kernel_rfl) (by simp) ?_
        refine AllReadyS.cons rfl (by kernel_rfl) (fun K hK => ?_) AllReadyS.nil
        go_simp
        ((go_at_call 49; (first | with_reducible refine Sit.calls0 SN.out (fun SN0 => ?_) | with_reducible refine Sit.calls1 SN.out (fun SN0 => ?_) | with_reducible refine Sit.calls2 SN.out (fun SN0 => ?_) | with_reducible refine Sit.calls0d SN.out (fun SN0 => ?_) | with_reducible refine Sit.calls1d SN.out (fun SN0 => ?_) | with_reducible refine Sit.calls2d SN.out (fun SN0 => ?_)); (try simp only [World.size_alloc, World.size_drew] at SN0); refine (iCartonWith_any (.agg #[.slice A4 zs3.length c4, .slice A5 y.spots.length c5]) y u _ (HY.out _ _ SN0 (by repeat (first | with_reducible exact List.mem_cons_self | with_reducible exact List.Mem.head _ | refine List.Mem.tail _ ?_)))).mono ?_; rintro e w11 ⟨rfl, hb11⟩; rw [HCB.out]; have SN2 := Lib.hid (SN0.next hb11); clear SN SN0 hb11 k3 k4 hlc; have SN := SN2; clear SN2; have k3 := SN.out.box (g := b3) (cs := #[.slice A7 zs2.length c7, .slice A8 x.spots.length c8]) (t := 46) (by repeat (first | with_reducible exact List.mem_cons_self | with_reducible exact List.Mem.head _ | refine List.Mem.tail _ ?_)); have k4 := SN.out.box (g := b3 + 1) (cs := #[.slice A4 zs3.length c4, .slice A5 y.spots.length c5]) (t := 46) (by repeat (first | with_reducible exact List.mem_cons_self | with_reducible exact List.Mem.head _ | refine List.Mem.tail _ ?_)); have hlc := (SN.out.list (f := cI) (K := 1) (base := w.heap.size) (e := 3) (v := .slice (some ⟨g6, 0, none⟩) M.length c6) (xs := M) (fp := f6) (by repeat (first | with_reducible exact List.mem_cons_self | with_reducible exact List.Mem.head _ | refine List.Mem.tail _ ?_))).cells (fun _ => rfl) HU.out 0 (.int .i64 u) rfl; simp only [Nat.mul_one, Nat.add_zero] at hlc))
        refine hK.out _ _ ?_ (fun hHeld => ?_)
        · (first | exact ⟨k3 0, k3 1, k4 0, k4 1, hlc⟩ | go_keep)
        clear hK K
        (try simp only [Act.put, List.getElem_toArray, List.getElem_cons_zero, List.getElem_cons_succ, List.setIfInBounds_toArray, List.set_cons_zero, List.set_cons_succ])
        refine wpS_take (i := 29) (v := ?_) rfl (by kernel_rfl) (fun _ _ _ h => h) (Or.inl ⟨by rfl, ?_⟩) (by assumption) ?_
        rotate_left
        · (intro w9 hSw; (try dsimp only at hSw); go_simp; (try with_reducible rfl))
        (try simp only [Act.put, List.getElem_toArray, List.getElem_cons_zero, List.getElem_cons_succ, List.setIfInBounds_toArray, List.set_cons_zero, List.set_cons_succ])
        refine wpS_take (i := 30) (v := ?_) rfl (by kernel_rfl) (fun _ _ _ h => h) (Or.inl ⟨by rfl, ?_⟩) (by assumption) ?_
        rotate_left
        · (intro w9 hSw; (try dsimp only at hSw); go_simp; (try with_reducible rfl))
        (try simp only [Act.put, List.getElem_toArray, List.getElem_cons_zero, List.getElem_cons_succ, List.setIfInBounds_toArray, List.set_cons_zero, List.set_cons_succ])
        refine wpS_take (i := 31) (v := ?_) rfl (by kernel_rfl) (fun _ _ _ h => h) (Or.inl ⟨by rfl, ?_⟩) (by assumption) ?_
        rotate_left
        · (intro w9 hSw; (try dsimp only at hSw); go_simp; (try with_reducible rfl))
        (try simp only [Act.put, List.getElem_toArray, List.getElem_cons_zero, List.getElem_cons_succ, List.setIfInBounds_toArray, List.set_cons_zero, List.set_cons_succ])
        refine wpS_take (i := 32) (v := ?_) rfl (by kernel_rfl) (fun _ _ _ h => h) (Or.inl ⟨by rfl, ?_⟩) (by assumption) ?_
        rotate_left
        · (intro w9 hSw; (try dsimp only at hSw); go_simp; (try with_reducible rfl))
        (try simp only [Act.put, List.getElem_toArray, List.getElem_cons_zero, List.getElem_cons_succ, List.setIfInBounds_toArray, List.set_cons_zero, List.set_cons_succ])
        refine wpS_take (i := 33) (v := ?_) rfl (by kernel_rfl) (fun _ _ _ h => h) (Or.inl ⟨by rfl, ?_⟩) (by assumption) ?_
        rotate_left
        · (intro w9 hSw; (try dsimp only at hSw); go_simp; (try with_reducible rfl))
        (try simp only [Act.put, List.getElem_toArray, List.getElem_cons_zero, List.getElem_cons_succ, List.setIfInBounds_toArray, List.set_cons_zero, List.set_cons_succ])
        refine wpS_take (i := 34) (v := ?_) rfl (by kernel_rfl) (fun _ _ _ h => h) (Or.inl ⟨by rfl, ?_⟩) (by assumption) ?_
        rotate_left
        · (intro w9 hSw; (try dsimp only at hSw); go_simp; (try with_reducible rfl))
        (try simp only [Act.put, List.getElem_toArray, List.getElem_cons_zero, List.getElem_cons_succ, List.setIfInBounds_toArray, List.set_cons_zero, List.set_cons_succ])
        refine wpS_take (i := 35) (v := undef) rfl (by kernel_rfl) (fun _ _ _ h => h) (Or.inr ⟨by rfl, rfl⟩) (by assumption) ?_
        (try simp only [Act.put, List.getElem_toArray, List.getElem_cons_zero, List.getElem_cons_succ, List.setIfInBounds_toArray, List.set_cons_zero, List.set_cons_succ])
        refine wpS_take (i := 36) (v := undef) rfl (by kernel_rfl) (fun _ _ _ h => h) (Or.inr ⟨by rfl, rfl⟩) (by assumption) ?_
        (try simp only [Act.put, List.getElem_toArray, List.getElem_cons_zero, List.getElem_cons_succ, List.setIfInBounds_toArray, List.set_cons_zero, List.set_cons_succ])
        refine wpS_take (i := 37) (v := undef) rfl (by kernel_rfl) (fun _ _ _ h => h) (Or.inr ⟨by rfl, rfl⟩) (by assumption) ?_
        (try simp only [Act.put, List.getElem_toArray, List.getElem_cons_zero, List.getElem_cons_succ, List.setIfInBounds_toArray, List.set_cons_zero, List.set_cons_succ])
        refine wpS_take (i := 38) (v := undef) rfl (by kernel_rfl) (fun _ _ _ h => h) (Or.inr ⟨by rfl, rfl⟩) (by assumption) ?_
        (try simp only [Act.put, List.getElem_toArray, List.getElem_cons_zero, List.getElem_cons_succ, List.setIfInBounds_toArray, List.set_cons_zero, List.set_cons_succ])
        refine wpS_take (i := 39) (v := undef) rfl (by kernel_rfl) (fun _ _ _ h => h) (Or.inr ⟨by rfl, rfl⟩) (by assumption) ?_
        (try simp only [Act.put, List.getElem_toArray, List.getElem_cons_zero, List.getElem_cons_succ, List.setIfInBounds_toArray, List.set_cons_zero, List.set_cons_succ])
        refine wpS_take (i := 40) (v := undef) rfl (by kernel_rfl) (fun _ _ _ h => h) (Or.inr ⟨by rfl, rfl⟩) (by assumption) ?_
        (try simp only [Act.put, List.getElem_toArray, List.getElem_cons_zero, List.getElem_cons_succ, List.setIfInBounds_toArray, List.set_cons_zero, List.set_cons_succ])
        refine wpS_take (i := 41) (v := undef) rfl (by kernel_rfl) (fun _ _ _ h => h) (Or.inr ⟨by rfl, rfl⟩) (by assumption) ?_
        (try simp only [Act.put, List.getElem_toArray, List.getElem_cons_zero, List.getElem_cons_succ, List.setIfInBounds_toArray, List.set_cons_zero, List.set_cons_succ])
        refine wpS_take (i := 42) (v := undef) rfl (by kernel_rfl) (fun _ _ _ h => h) (Or.inr ⟨by rfl, rfl⟩) (by assumption) ?_
        (try simp only [Act.put, List.getElem_toArray, List.getElem_cons_zero, List.getElem_cons_succ, List.setIfInBounds_toArray, List.set_cons_zero, List.set_cons_succ])
        refine wpS_take (i := 43) (v := undef) rfl (by kernel_rfl) (fun _ _ _ h => h) (Or.inr ⟨by rfl, rfl⟩) (by assumption) ?_
        (try simp only [Act.put, List.getElem_toArray, List.getElem_cons_zero, List.getElem_cons_succ, List.setIfInBounds_toArray, List.set_cons_zero, List.set_cons_succ])
        refine wpS_take (i := 44) (v := undef) rfl (by kernel_rfl) (fun _ _ _ h => h) (Or.inr ⟨by rfl, rfl⟩) (by assumption) ?_
        (try simp only [Act.put, List.getElem_toArray, List.getElem_cons_zero, List.getElem_cons_succ, List.setIfInBounds_toArray, List.set_cons_zero, List.set_cons_succ])
        refine wpS_take (i := 45) (v := ?_) rfl (by kernel_rfl) (fun _ _ _ h => h) (Or.inl ⟨by rfl, ?_⟩) (by assumption) ?_
        rotate_left
        · (intro w9 hSw; (try dsimp only at hSw); go_simp; (try with_reducible rfl))
        (try simp only [Act.put, List.getElem_toArray, List.getElem_cons_zero, List.getElem_cons_succ, List.setIfInBounds_toArray, List.set_cons_zero, List.set_cons_succ])
        refine wpS_ready (rs := [46]) (by kernel_rfl) (by simp) ?_
        refine AllReadyS.last rfl (by kernel_rfl) (fun K hK => ?_)
        go_simp
        refine hK.out _ _ ?_
        clear hK K
        (try simp only [Act.put, List.getElem_toArray, List.getElem_cons_zero, List.getElem_cons_succ, List.setIfInBounds_toArray, List.set_cons_zero, List.set_cons_succ])
        refine wpS_done (by kernel_rfl) ?_ _
        go_wp2_with fail
        go_roundw
        case rel => exact ⟨0 + 1, hlt, by go_num, Lib.hid (SN.out.drop.drop)⟩
        case measure => simp [intOf] <;> omega
      · obtain ⟨m, hkm⟩ : ∃ m, k = m + 1 := ⟨k - 1, by omega⟩
        obtain ⟨u1, hu1⟩ : ∃ u, M[m]? = some u := ⟨_, List.getElem?_eq_getElem (by omega)⟩
        have hst : decide (u ≤ u1) = false := decide_eq_false <| mov_step (a := x) (b := y) (by rw [HM.out, ← hkm]; exact HU.out) (by rw [HM.out]; exact hu1)
        have HP1 := Lib.hid hu1
        clear hu1
        have hm0 : decide ((0 : Int) < (k : Int)) = true := decide_eq_true (by omega)
        have hkp : (0 : Int) < (k : Int) := by omega
        have hw1 : wrap64 ((k : Int) - 1) = (m : Int) := by unfold wrap64; omega
        have hw2 : IntKind.i64.wrap ((k : Int) - 1) = (m : Int) := by rw [wrapE]; exact hw1
        have hmlt : m < M.length := by omega
        clear hkm
        have hlp := (SN.out.list (f := cI) (K := 1) (base := w.heap.size) (e := 3) (v := .slice (some ⟨g6, 0, none⟩) M.length c6) (xs := M) (fp := f6) (by repeat (first | with_reducible exact List.mem_cons_self | with_reducible exact List.Mem.head _ | refine List.Mem.tail _ ?_))).cells (fun _ => rfl) HP1.out 0 (.int .i64 u1) rfl; simp only [Nat.mul_one, Nat.add_zero] at hlp
        go_wp2_with fail
        refine wp_region_S (S := (fun W' => W'.cell? ⟨b3, 0, none⟩ = some (.slice A7 zs2.length c7) ∧ W'.cell? ⟨b3, 1, none⟩ = some (.slice A8 x.spots.length c8) ∧ W'.cell? ⟨b3 + 1, 0, none⟩ = some (.slice A4 zs3.length c4) ∧ W'.cell? ⟨b3 + 1, 1, none⟩ = some (.slice A5 y.spots.length c5) ∧ W'.cell? ⟨g6, k, none⟩ = some (.int .i64 u) ∧ W'.cell? ⟨g6, m, none⟩ = some (.int .i64 u1))) (by kernel_rfl) ?_ (fun hHeld => ?_)
        · (first | exact ⟨k3 0, k3 1, k4 0, k4 1, hlc, hlp⟩ | go_keep)
        refine wpS_take (i := 0) (v := ?_) rfl (by kernel_rfl) (fun _ _ _ h => h) (Or.inl ⟨by rfl, ?_⟩) (by assumption) ?_
        rotate_left
        · (intro w9 hSw; (try dsimp only at hSw); go_simp; (try with_reducible rfl))
        (try simp only [Act.put, List.getElem_toArray, List.getElem_cons_zero, List.getElem_cons_succ, List.setIfInBounds_toArray, List.set_cons_zero, List.set_cons_succ])
        refine wpS_take (i := 1) (v := ?_) rfl (by kernel_rfl) (fun _ _ _ h => h) (Or.inl ⟨by rfl, ?_⟩) (by assumption) ?_
        rotate_left
        · (intro w9 hSw; (try dsimp only at hSw); go_simp; (try with_reducible rfl))
        (try simp only [Act.put, List.getElem_toArray, List.getElem_cons_zero, List.getElem_cons_succ, List.setIfInBounds_toArray, List.set_cons_zero, List.set_cons_succ])
        refine wpS_take (i := 2) (v := ?_) rfl (by kernel_rfl) (fun _ _ _ h => h) (Or.inl ⟨by rfl, ?_⟩) (by assumption) ?_
        rotate_left
        · (intro w9 hSw; (try dsimp only at hSw); go_simp; (try with_reducible rfl))
        (try simp only [Act.put, List.getElem_toArray, List.getElem_cons_zero, List.getElem_cons_succ, List.setIfInBounds_toArray, List.set_cons_zero, List.set_cons_succ])
        refine wpS_take (i := 3) (v := ?_) rfl (by kernel_rfl) (fun _ _ _ h => h) (Or.inl ⟨by rfl, ?_⟩) (by assumption) ?_
        rotate_left
        · (intro w9 hSw; (try dsimp only at hSw); go_simp; (try with_reducible rfl))
        (try simp only [Act.put, List.getElem_toArray, List.getElem_cons_zero, List.getElem_cons_succ, List.setIfInBounds_toArray, List.set_cons_zero, List.set_cons_succ])
        refine wpS_take (i := 4) (v := ?_) rfl (by kernel_rfl) (fun _ _ _ h => h) (Or.inl ⟨by rfl, ?_⟩) (by assumption) ?_
        rotate_left
        · (intro w9 hSw; (try dsimp only at hSw); go_simp; (try with_reducible rfl))
        (try simp only [Act.put, List.getElem_toArray, List.getElem_cons_zero, List.getElem_cons_succ, List.setIfInBounds_toArray, List.set_cons_zero, List.set_cons_succ])
        refine wpS_take (i := 6) (v := ?_) rfl (by kernel_rfl) (fun _ _ _ h => h) (Or.inl ⟨by rfl, ?_⟩) (by assumption) ?_
        rotate_left
        · (intro w9 hSw; (try dsimp only at hSw); go_simp; (try with_reducible rfl))
        (try simp only [Act.put, List.getElem_toArray, List.getElem_cons_zero, List.getElem_cons_succ, List.setIfInBounds_toArray, List.set_cons_zero, List.set_cons_succ])
        refine wpS_take (i := 7) (v := ?_) rfl (by kernel_rfl) (fun _ _ _ h => h) (Or.inl ⟨by rfl, ?_⟩) (by assumption) ?_
        rotate_left
        · (intro w9 hSw; (try dsimp only at hSw); go_simp; (try with_reducible rfl))
        (try simp only [Act.put, List.getElem_toArray, List.getElem_cons_zero, List.getElem_cons_succ, List.setIfInBounds_toArray, List.set_cons_zero, List.set_cons_succ])
        refine wpS_take (i := 8) (v := ?_) rfl (by kernel_rfl) (fun _ _ _ h => h) (Or.inl ⟨by rfl, ?_⟩) (by assumption) ?_
        rotate_left
        · (intro w9 hSw; (try dsimp only at hSw); go_simp; (try with_reducible rfl))
        (try simp only [Act.put, List.getElem_toArray, List.getElem_cons_zero, List.getElem_cons_succ, List.setIfInBounds_toArray, List.set_cons_zero, List.set_cons_succ])
        refine wpS_take (i := 9) (v := ?_) rfl (by kernel_rfl) (fun _ _ _ h => h) (Or.inl ⟨by rfl, ?_⟩) (by assumption) ?_
        rotate_left
        · (intro w9 hSw; (try dsimp only at hSw); go_simp; (try with_reducible rfl))
        (try simp only [Act.put, List.getElem_toArray, List.getElem_cons_zero, List.getElem_cons_succ, List.setIfInBounds_toArray, List.set_cons_zero, List.set_cons_succ])
        refine wpS_take (i := 10) (v := ?_) rfl (by kernel_rfl) (fun _ _ _ h => h) (Or.inl ⟨by rfl, ?_⟩) (by assumption) ?_
        rotate_left
        · (intro w9 hSw; (try dsimp only at hSw); go_simp; (try with_reducible rfl))
        (try simp only [Act.put, List.getElem_toArray, List.getElem_cons_zero, List.getElem_cons_succ, List.setIfInBounds_toArray, List.set_cons_zero, List.set_cons_succ])
        refine wpS_ready (rs := [5]) (by kernel_rfl) (by simp) ?_
        refine AllReadyS.cons rfl (by kernel_rfl) (fun K hK => ?_) AllReadyS.nil
        go_simp
        ((go_at_call 48; (first | with_reducible refine Sit.calls0 SN.out (fun SN0 => ?_) | with_reducible refine Sit.calls1 SN.out (fun SN0 => ?_) | with_reducible refine Sit.calls2 SN.out (fun SN0 => ?_) | with_reducible refine Sit.calls0d SN.out (fun SN0 => ?_) | with_reducible refine Sit.calls1d SN.out (fun SN0 => ?_) | with_reducible refine Sit.calls2d SN.out (fun SN0 => ?_)); (try simp only [World.size_alloc, World.size_drew] at SN0); refine (iTogether_any (.agg #[.slice A7 zs2.length c7, .slice A8 x.spots.length c8]) x u _ (HX.out _ _ SN0 (by repeat (first | with_reducible exact List.mem_cons_self | with_reducible exact List.Mem.head _ | refine List.Mem.tail _ ?_))) (by omega)).mono ?_; intro e w9 hm; obtain ⟨v9, f9, rfl, SN1⟩ := SN0.gotInts hm; have SN2 := Lib.hid SN1; clear SN SN0 SN1 hm k3 k4 hlc; have SN := SN2; clear SN2; have k3 := SN.out.box (g := b3) (cs := #[.slice A7 zs2.length c7, .slice A8 x.spots.length c8]) (t := 46) (by repeat (first | with_reducible exact List.mem_cons_self | with_reducible exact List.Mem.head _ | refine List.Mem.tail _ ?_)); have k4 := SN.out.box (g := b3 + 1) (cs := #[.slice A4 zs3.length c4, .slice A5 y.spots.length c5]) (t := 46) (by repeat (first | with_reducible exact List.mem_cons_self | with_reducible exact List.Mem.head _ | refine List.Mem.tail _ ?_)); have hlc := (SN.out.list (f := cI) (K := 1) (base := w.heap.size) (e := 3) (v := .slice (some ⟨g6, 0, none⟩) M.length c6) (xs := M) (fp := f6) (by repeat (first | with_reducible exact List.mem_cons_self | with_reducible exact List.Mem.head _ | refine List.Mem.tail _ ?_))).cells (fun _ => rfl) HU.out 0 (.int .i64 u) rfl; simp only [Nat.mul_one, Nat.add_zero] at hlc; (clear hlp; have hlp := (SN.out.list (f := cI) (K := 1) (base := w.heap.size) (e := 3) (v := .slice (some ⟨g6, 0, none⟩) M.length c6) (xs := M) (fp := f6) (by repeat (first | with_reducible exact List.mem_cons_self | with_reducible exact List.Mem.head _ | refine List.Mem.tail _ ?_))).cells (fun _ => rfl) HP1.out 0 (.int .i64 u1) rfl; simp only [Nat.mul_one, Nat.add_zero] at hlp)))
        refine hK.out _ _ ?_ (fun hHeld => ?_)
        · (first | exact ⟨k3 0, k3 1, k4 0, k4 1, hlc, hlp⟩ | go_keep)
        clear hK K
        (try simp only [Act.put, List.getElem_toArray, List.getElem_cons_zero, List.getElem_cons_succ, List.setIfInBounds_toArray, List.set_cons_zero, List.set_cons_succ])
        refine wpS_ready (rs := [11]) (by kernel_rfl) (by simp) ?_
        refine AllReadyS.cons rfl (by kernel_rfl) (fun K hK => ?_) AllReadyS.nil
        go_simp
        ((go_at_call 48; (first | with_reducible refine Sit.calls0 SN.out (fun SN0 => ?_) | with_reducible refine Sit.calls1 SN.out (fun SN0 => ?_) | with_reducible refine Sit.calls2 SN.out (fun SN0 => ?_) | with_reducible refine Sit.calls0d SN.out (fun SN0 => ?_) | with_reducible refine Sit.calls1d SN.out (fun SN0 => ?_) | with_reducible refine Sit.calls2d SN.out (fun SN0 => ?_)); (try simp only [World.size_alloc, World.size_drew] at SN0); refine (iTogether_any (.agg #[.slice A4 zs3.length c4, .slice A5 y.spots.length c5]) y u _ (HY.out _ _ SN0 (by repeat (first | with_reducible exact List.mem_cons_self | with_reducible exact List.Mem.head _ | refine List.Mem.tail _ ?_))) (by omega)).mono ?_; intro e w9 hm; obtain ⟨v10, f10, rfl, SN1⟩ := SN0.gotInts hm; have SN2 := Lib.hid SN1; clear SN SN0 SN1 hm k3 k4 hlc; have SN := SN2; clear SN2; have k3 := SN.out.box (g := b3) (cs := #[.slice A7 zs2.length c7, .slice A8 x.spots.length c8]) (t := 46) (by repeat (first | with_reducible exact List.mem_cons_self | with_reducible exact List.Mem.head _ | refine List.Mem.tail _ ?_)); have k4 := SN.out.box (g := b3 + 1) (cs := #[.slice A4 zs3.length c4, .slice A5 y.spots.length c5]) (t := 46) (by repeat (first | with_reducible exact List.mem_cons_self | with_reducible exact List.Mem.head _ | refine List.Mem.tail _ ?_)); have hlc := (SN.out.list (f := cI) (K := 1) (base := w.heap.size) (e := 3) (v := .slice (some ⟨g6, 0, none⟩) M.length c6) (xs := M) (fp := f6) (by repeat (first | with_reducible exact List.mem_cons_self | with_reducible exact List.Mem.head _ | refine List.Mem.tail _ ?_))).cells (fun _ => rfl) HU.out 0 (.int .i64 u) rfl; simp only [Nat.mul_one, Nat.add_zero] at hlc; (clear hlp; have hlp := (SN.out.list (f := cI) (K := 1) (base := w.heap.size) (e := 3) (v := .slice (some ⟨g6, 0, none⟩) M.length c6) (xs := M) (fp := f6) (by repeat (first | with_reducible exact List.mem_cons_self | with_reducible exact List.Mem.head _ | refine List.Mem.tail _ ?_))).cells (fun _ => rfl) HP1.out 0 (.int .i64 u1) rfl; simp only [Nat.mul_one, Nat.add_zero] at hlp)))
        refine hK.out _ _ ?_ (fun hHeld => ?_)
        · (first | exact ⟨k3 0, k3 1, k4 0, k4 1, hlc, hlp⟩ | go_keep)
        clear hK K
        (try simp only [Act.put, List.getElem_toArray, List.getElem_cons_zero, List.getElem_cons_succ, List.setIfInBounds_toArray, List.set_cons_zero, List.set_cons_succ])
        refine wpS_ready (rs := [12]) (by kernel_rfl) (by simp) ?_
        refine AllReadyS.cons rfl (by kernel_rfl) (fun K hK => ?_) AllReadyS.nil
        go_simp
        ((go_at_call 46; (first | with_reducible refine Sit.calls0 SN.out (fun SN0 => ?_) | with_reducible refine Sit.calls1 SN.out (fun SN0 => ?_) | with_reducible refine Sit.calls2 SN.out (fun SN0 => ?_) | with_reducible refine Sit.calls0d SN.out (fun SN0 => ?_) | with_reducible refine Sit.calls1d SN.out (fun SN0 => ?_) | with_reducible refine Sit.calls2d SN.out (fun SN0 => ?_)); (try simp only [World.size_alloc, World.size_drew] at SN0); refine (sameInts_any _ _ (tog x u) (tog y u) _ (OInts.read (SN0.list (by repeat (first | with_reducible exact List.mem_cons_self | with_reducible exact List.Mem.head _ | refine List.Mem.tail _ ?_))) HTL.out.1) (OInts.read (SN0.list (by repeat (first | with_reducible exact List.mem_cons_self | with_reducible exact List.Mem.head _ | refine List.Mem.tail _ ?_))) HTL.out.2)).mono ?_; rintro e w10 ⟨rfl, hb10⟩; rw [HQ.out]; have SN2 := Lib.hid (SN0.next hb10); clear SN SN0 hb10 k3 k4 hlc; have SN := SN2; clear SN2; have k3 := SN.out.box (g := b3) (cs := #[.slice A7 zs2.length c7, .slice A8 x.spots.length c8]) (t := 46) (by repeat (first | with_reducible exact List.mem_cons_self | with_reducible exact List.Mem.head _ | refine List.Mem.tail _ ?_)); have k4 := SN.out.box (g := b3 + 1) (cs := #[.slice A4 zs3.length c4, .slice A5 y.spots.length c5]) (t := 46) (by repeat (first | with_reducible exact List.mem_cons_self | with_reducible exact List.Mem.head _ | refine List.Mem.tail _ ?_)); have hlc := (SN.out.list (f := cI) (K := 1) (base := w.heap.size) (e := 3) (v := .slice (some ⟨g6, 0, none⟩) M.length c6) (xs := M) (fp := f6) (by repeat (first | with_reducible exact List.mem_cons_self | with_reducible exact List.Mem.head _ | refine List.Mem.tail _ ?_))).cells (fun _ => rfl) HU.out 0 (.int .i64 u) rfl; simp only [Nat.mul_one, Nat.add_zero] at hlc; (clear hlp; have hlp := (SN.out.list (f := cI) (K := 1) (base := w.heap.size) (e := 3) (v := .slice (some ⟨g6, 0, none⟩) M.length c6) (xs := M) (fp := f6) (by repeat (first | with_reducible exact List.mem_cons_self | with_reducible exact List.Mem.head _ | refine List.Mem.tail _ ?_))).cells (fun _ => rfl) HP1.out 0 (.int .i64 u1) rfl; simp only [Nat.mul_one, Nat.add_zero] at hlp)))
        refine hK.out _ _ ?_ (fun hHeld => ?_)
        · (first | exact ⟨k3 0, k3 1, k4 0, k4 1, hlc, hlp⟩ | go_keep)
        clear hK K
        (try simp only [Act.put, List.getElem_toArray, List.getElem_cons_zero, List.getElem_cons_succ, List.setIfInBounds_toArray, List.set_cons_zero, List.set_cons_succ])
        refine wpS_take (i := 13) (v := ?_) rfl (by kernel_rfl) (fun _ _ _ h => h) (Or.inl ⟨by rfl, ?_⟩) (by assumption) ?_
        rotate_left
        · (intro w9 hSw; (try dsimp only at hSw); go_simp; (try with_reducible rfl))
        (try simp only [Act.put, List.getElem_toArray, List.getElem_cons_zero, List.getElem_cons_succ, List.setIfInBounds_toArray, List.set_cons_zero, List.set_cons_succ])
        refine wpS_take (i := 14) (v := ?_) rfl (by kernel_rfl) (fun _ _ _ h => h) (Or.inl ⟨by rfl, ?_⟩) (by assumption) ?_
        rotate_left
        · (intro w9 hSw; (try dsimp only at hSw); go_simp; (try with_reducible rfl))
        (try simp only [Act.put, List.getElem_toArray, List.getElem_cons_zero, List.getElem_cons_succ, List.setIfInBounds_toArray, List.set_cons_zero, List.set_cons_succ])
        refine wpS_take (i := 15) (v := ?_) rfl (by kernel_rfl) (fun _ _ _ h => h) (Or.inl ⟨by rfl, ?_⟩) (by assumption) ?_
        rotate_left
        · (intro w9 hSw; (try dsimp only at hSw); go_simp; (try with_reducible rfl))
        (try simp only [Act.put, List.getElem_toArray, List.getElem_cons_zero, List.getElem_cons_succ, List.setIfInBounds_toArray, List.set_cons_zero, List.set_cons_succ])
        refine wpS_take (i := 16) (v := ?_) rfl (by kernel_rfl) (fun _ _ _ h => h) (Or.inl ⟨by rfl, ?_⟩) (by assumption) ?_
        rotate_left
        · (intro w9 hSw; (try dsimp only at hSw); go_simp; (try with_reducible rfl))
        (try simp only [Act.put, List.getElem_toArray, List.getElem_cons_zero, List.getElem_cons_succ, List.setIfInBounds_toArray, List.set_cons_zero, List.set_cons_succ])
        refine wpS_take (i := 17) (v := ?_) rfl (by kernel_rfl) (fun _ _ _ h => h) (Or.inl ⟨by rfl, ?_⟩) (by assumption) ?_
        rotate_left
        · (intro w9 hSw; (try dsimp only at hSw); go_simp; (try with_reducible rfl))
        (try simp only [Act.put, List.getElem_toArray, List.getElem_cons_zero, List.getElem_cons_succ, List.setIfInBounds_toArray, List.set_cons_zero, List.set_cons_succ])
        refine wpS_take (i := 18) (v := ?_) rfl (by kernel_rfl) (fun _ _ _ h => h) (Or.inl ⟨by rfl, ?_⟩) (by assumption) ?_
        rotate_left
        · (intro w9 hSw; (try dsimp only at hSw); go_simp; (try with_reducible rfl))
        (try simp only [Act.put, List.getElem_toArray, List.getElem_cons_zero, List.getElem_cons_succ, List.setIfInBounds_toArray, List.set_cons_zero, List.set_cons_succ])
        refine wpS_ready (rs := [19]) (by kernel_rfl) (by simp) ?_
        refine AllReadyS.cons rfl (by kernel_rfl) (fun K hK => ?_) AllReadyS.nil
        go_simp
        ((go_at_call 49; (first | with_reducible refine Sit.calls0 SN.out (fun SN0 => ?_) | with_reducible refine Sit.calls1 SN.out (fun SN0 => ?_) | with_reducible refine Sit.calls2 SN.out (fun SN0 => ?_) | with_reducible refine Sit.calls0d SN.out (fun SN0 => ?_) | with_reducible refine Sit.calls1d SN.out (fun SN0 => ?_) | with_reducible refine Sit.calls2d SN.out (fun SN0 => ?_)); (try simp only [World.size_alloc, World.size_drew] at SN0); refine (iCartonWith_any (.agg #[.slice A7 zs2.length c7, .slice A8 x.spots.length c8]) x u _ (HX.out _ _ SN0 (by repeat (first | with_reducible exact List.mem_cons_self | with_reducible exact List.Mem.head _ | refine List.Mem.tail _ ?_)))).mono ?_; rintro e w11 ⟨rfl, hb11⟩; rw [HCA.out]; have SN2 := Lib.hid (SN0.next hb11); clear SN SN0 hb11 k3 k4 hlc; have SN := SN2; clear SN2; have k3 := SN.out.box (g := b3) (cs := #[.slice A7 zs2.length c7, .slice A8 x.spots.length c8]) (t := 46) (by repeat (first | with_reducible exact List.mem_cons_self | with_reducible exact List.Mem.head _ | refine List.Mem.tail _ ?_)); have k4 := SN.out.box (g := b3 + 1) (cs := #[.slice A4 zs3.length c4, .slice A5 y.spots.length c5]) (t := 46) (by repeat (first | with_reducible exact List.mem_cons_self | with_reducible exact List.Mem.head _ | refine List.Mem.tail _ ?_)); have hlc := (SN.out.list (f := cI) (K := 1) (base := w.heap.size) (e := 3) (v := .slice (some ⟨g6, 0, none⟩) M.length c6) (xs := M) (fp := f6) (by repeat (first | with_reducible exact List.mem_cons_self | with_reducible exact List.Mem.head _ | refine List.Mem.tail _ ?_))).cells (fun _ => rfl) HU.out 0 (.int .i64 u) rfl; simp only [Nat.mul_one, Nat.add_zero] at hlc; (clear hlp; have hlp := (SN.out.list (f := cI) (K := 1) (base := w.heap.size) (e := 3) (v := .slice (some ⟨g6, 0, none⟩) M.length c6) (xs := M) (fp := f6) (by repeat (first | with_reducible exact List.mem_cons_self | with_reducible exact List.Mem.head _ | refine List.Mem.tail _ ?_))).cells (fun _ => rfl) HP1.out 0 (.int .i64 u1) rfl; simp only [Nat.mul_one, Nat.add_zero] at hlp)))
        refine hK.out _ _ ?_ (fun hHeld => ?_)
        · (first | exact ⟨k3 0, k3 1, k4 0, k4 1, hlc, hlp⟩ | go_keep)
        clear hK K
        (try simp only [Act.put, List.getElem_toArray, List.getElem_cons_zero, List.getElem_cons_succ, List.setIfInBounds_toArray, List.set_cons_zero, List.set_cons_succ])
        refine wpS_take (i := 20) (v := ?_) rfl (by kernel_rfl) (fun _ _ _ h => h) (Or.inl ⟨by rfl, ?_⟩) (by assumption) ?_
        rotate_left
        · (intro w9 hSw; (try dsimp only at hSw); go_simp; (try with_reducible rfl))
        (try simp only [Act.put, List.getElem_toArray, List.getElem_cons_zero, List.getElem_cons_succ, List.setIfInBounds_toArray, List.set_cons_zero, List.set_cons_succ])
        refine wpS_take (i := 21) (v := ?_) rfl (by kernel_rfl) (fun _ _ _ h => h) (Or.inl ⟨by rfl, ?_⟩) (by assumption) ?_
        rotate_left
        · (intro w9 hSw; (try dsimp only at hSw); go_simp; (try with_reducible rfl))
        (try simp only [Act.put, List.getElem_toArray, List.getElem_cons_zero, List.getElem_cons_succ, List.setIfInBounds_toArray, List.set_cons_zero, List.set_cons_succ])
        refine wpS_take (i := 22) (v := ?_) rfl (by kernel_rfl) (fun _ _ _ h => h) (Or.inl ⟨by rfl, ?_⟩) (by assumption) ?_
        rotate_left
        · (intro w9 hSw; (try dsimp only at hSw); go_simp; (try with_reducible rfl))
        (try simp only [Act.put, List.getElem_toArray, List.getElem_cons_zero, List.getElem_cons_succ, List.setIfInBounds_toArray, List.set_cons_zero, List.set_cons_succ])
        refine wpS_take (i := 23) (v := ?_) rfl (by kernel_rfl) (fun _ _ _ h => h) (Or.inl ⟨by rfl, ?_⟩) (by assumption) ?_
        rotate_left
        · (intro w9 hSw; (try dsimp only at hSw); go_simp; (try with_reducible rfl))
        (try simp only [Act.put, List.getElem_toArray, List.getElem_cons_zero, List.getElem_cons_succ, List.setIfInBounds_toArray, List.set_cons_zero, List.set_cons_succ])
        refine wpS_take (i := 24) (v := ?_) rfl (by kernel_rfl) (fun _ _ _ h => h) (Or.inl ⟨by rfl, ?_⟩) (by assumption) ?_
        rotate_left
        · (intro w9 hSw; (try dsimp only at hSw); go_simp; (try with_reducible rfl))
        (try simp only [Act.put, List.getElem_toArray, List.getElem_cons_zero, List.getElem_cons_succ, List.setIfInBounds_toArray, List.set_cons_zero, List.set_cons_succ])
        refine wpS_take (i := 25) (v := ?_) rfl (by kernel_rfl) (fun _ _ _ h => h) (Or.inl ⟨by rfl, ?_⟩) (by assumption) ?_
        rotate_left
        · (intro w9 hSw; (try dsimp only at hSw); go_simp; (try with_reducible rfl))
        (try simp only [Act.put, List.getElem_toArray, List.getElem_cons_zero, List.getElem_cons_succ, List.setIfInBounds_toArray, List.set_cons_zero, List.set_cons_succ])
        refine wpS_take (i := 26) (v := ?_) rfl (by kernel_rfl) (fun _ _ _ h => h) (Or.inl ⟨by rfl, ?_⟩) (by assumption) ?_
        rotate_left
        · (intro w9 hSw; (try dsimp only at hSw); go_simp; (try with_reducible rfl))
        (try simp only [Act.put, List.getElem_toArray, List.getElem_cons_zero, List.getElem_cons_succ, List.setIfInBounds_toArray, List.set_cons_zero, List.set_cons_succ])
        refine wpS_take (i := 27) (v := ?_) rfl (by kernel_rfl) (fun _ _ _ h => h) (Or.inl ⟨by rfl, ?_⟩) (by assumption) ?_
        rotate_left
        · (intro w9 hSw; (try dsimp only at hSw); go_simp; (try with_reducible rfl))
        (try simp only [Act.put, List.getElem_toArray, List.getElem_cons_zero, List.getElem_cons_succ, List.setIfInBounds_toArray, List.set_cons_zero, List.set_cons_succ])
        refine wpS_ready (rs := [28]) (by kernel_rfl) (by simp) ?_
        refine AllReadyS.cons rfl (by kernel_rfl) (fun K hK => ?_) AllReadyS.nil
        go_simp
        ((go_at_call 49; (first | with_reducible refine Sit.calls0 SN.out (fun SN0 => ?_) | with_reducible refine Sit.calls1 SN.out (fun SN0 => ?_) | with_reducible refine Sit.calls2 SN.out (fun SN0 => ?_) | with_reducible refine Sit.calls0d SN.out (fun SN0 => ?_) | with_reducible refine Sit.calls1d SN.out (fun SN0 => ?_) | with_reducible refine Sit.calls2d SN.out (fun SN0 => ?_)); (try simp only [World.size_alloc, World.size_drew] at SN0); refine (iCartonWith_any (.agg #[.slice A4 zs3.length c4, .slice A5 y.spots.length c5]) y u _ (HY.out _ _ SN0 (by repeat (first | with_reducible exact List.mem_cons_self | with_reducible exact List.Mem.head _ | refine List.Mem.tail _ ?_)))).mono ?_; rintro e w11 ⟨rfl, hb11⟩; rw [HCB.out]; have SN2 := Lib.hid (SN0.next hb11); clear SN SN0 hb11 k3 k4 hlc; have SN := SN2; clear SN2; have k3 := SN.out.box (g := b3) (cs := #[.slice A7 zs2.length c7, .slice A8 x.spots.length c8]) (t := 46) (by repeat (first | with_reducible exact List.mem_cons_self | with_reducible exact List.Mem.head _ | refine List.Mem.tail _ ?_)); have k4 := SN.out.box (g := b3 + 1) (cs := #[.slice A4 zs3.length c4, .slice A5 y.spots.length c5]) (t := 46) (by repeat (first | with_reducible exact List.mem_cons_self | with_reducible exact List.Mem.head _ | refine List.Mem.tail _ ?_)); have hlc := (SN.out.list (f := cI) (K := 1) (base := w.heap.size) (e := 3) (v := .slice (some ⟨g6, 0, none⟩) M.length c6) (xs := M) (fp := f6) (by repeat (first | with_reducible exact List.mem_cons_self | with_reducible exact List.Mem.head _ | refine List.Mem.tail _ ?_))).cells (fun _ => rfl) HU.out 0 (.int .i64 u) rfl; simp only [Nat.mul_one, Nat.add_zero] at hlc; (clear hlp; have hlp := (SN.out.list (f := cI) (K := 1) (base := w.heap.size) (e := 3) (v := .slice (some ⟨g6, 0, none⟩) M.length c6) (xs := M) (fp := f6) (by repeat (first | with_reducible exact List.mem_cons_self | with_reducible exact List.Mem.head _ | refine List.Mem.tail _ ?_))).cells (fun _ => rfl) HP1.out 0 (.int .i64 u1) rfl; simp only [Nat.mul_one, Nat.add_zero] at hlp)))
        refine hK.out _ _ ?_ (fun hHeld => ?_)
        · (first | exact ⟨k3 0, k3 1, k4 0, k4 1, hlc, hlp⟩ | go_keep)
        clear hK K
        (try simp only [Act.put, List.getElem_toArray, List.getElem_cons_zero, List.getElem_cons_succ, List.setIfInBounds_toArray, List.set_cons_zero, List.set_cons_succ])
        refine wpS_take (i := 29) (v := ?_) rfl (by kernel_rfl) (fun _ _ _ h => h) (Or.inl ⟨by rfl, ?_⟩) (by assumption) ?_
        rotate_left
        · (intro w9 hSw; (try dsimp only at hSw); go_simp; (try with_reducible rfl))
        (try simp only [Act.put, List.getElem_toArray, List.getElem_cons_zero, List.getElem_cons_succ, List.setIfInBounds_toArray, List.set_cons_zero, List.set_cons_succ])
        refine wpS_take (i := 30) (v := ?_) rfl (by kernel_rfl) (fun _ _ _ h => h) (Or.inl ⟨by rfl, ?_⟩) (by assumption) ?_
        rotate_left
        · (intro w9 hSw; (try dsimp only at hSw); go_simp; (try with_reducible rfl))
        (try simp only [Act.put, List.getElem_toArray, List.getElem_cons_zero, List.getElem_cons_succ, List.setIfInBounds_toArray, List.set_cons_zero, List.set_cons_succ])
        refine wpS_take (i := 31) (v := ?_) rfl (by kernel_rfl) (fun _ _ _ h => h) (Or.inl ⟨by rfl, ?_⟩) (by assumption) ?_
        rotate_left
        · (intro w9 hSw; (try dsimp only at hSw); go_simp; (try with_reducible rfl))
        (try simp only [Act.put, List.getElem_toArray, List.getElem_cons_zero, List.getElem_cons_succ, List.setIfInBounds_toArray, List.set_cons_zero, List.set_cons_succ])
        refine wpS_take (i := 32) (v := ?_) rfl (by kernel_rfl) (fun _ _ _ h => h) (Or.inl ⟨by rfl, ?_⟩) (by assumption) ?_
        rotate_left
        · (intro w9 hSw; (try dsimp only at hSw); go_simp; (try with_reducible rfl))
        (try simp only [Act.put, List.getElem_toArray, List.getElem_cons_zero, List.getElem_cons_succ, List.setIfInBounds_toArray, List.set_cons_zero, List.set_cons_succ])
        refine wpS_take (i := 33) (v := ?_) rfl (by kernel_rfl) (fun _ _ _ h => h) (Or.inl ⟨by rfl, ?_⟩) (by assumption) ?_
        rotate_left
        · (intro w9 hSw; (try dsimp only at hSw); go_simp; (try with_reducible rfl))
        (try simp only [Act.put, List.getElem_toArray, List.getElem_cons_zero, List.getElem_cons_succ, List.setIfInBounds_toArray, List.set_cons_zero, List.set_cons_succ])
        refine wpS_take (i := 34) (v := ?_) rfl (by kernel_rfl) (fun _ _ _ h => h) (Or.inl ⟨by rfl, ?_⟩) (by assumption) ?_
        rotate_left
        · (intro w9 hSw; (try dsimp only at hSw); go_simp; (try with_reducible rfl))
        (try simp only [Act.put, List.getElem_toArray, List.getElem_cons_zero, List.getElem_cons_succ, List.setIfInBounds_toArray, List.set_cons_zero, List.set_cons_succ])
        refine wpS_take (i := 35) (v := ?_) rfl (by kernel_rfl) (fun _ _ _ h => h) (Or.inl ⟨by rfl, ?_⟩) (by assumption) ?_
        rotate_left
        · (intro w9 hSw; (try dsimp only at hSw); go_simp; (try with_reducible rfl))
        (try simp only [Act.put, List.getElem_toArray, List.getElem_cons_zero, List.getElem_cons_succ, List.setIfInBounds_toArray, List.set_cons_zero, List.set_cons_succ])
        refine wpS_take (i := 36) (v := ?_) rfl (by kernel_rfl) (fun _ _ _ h => h) (Or.inl ⟨by rfl, ?_⟩) (by assumption) ?_
        rotate_left
        · (intro w9 hSw; (try dsimp only at hSw); go_simp; (try with_reducible rfl))
        (try simp only [Act.put, List.getElem_toArray, List.getElem_cons_zero, List.getElem_cons_succ, List.setIfInBounds_toArray, List.set_cons_zero, List.set_cons_succ])
        refine wpS_take (i := 37) (v := ?_) rfl (by kernel_rfl) (fun _ _ _ h => h) (Or.inl ⟨by rfl, ?_⟩) (by assumption) ?_
        rotate_left
        · (intro w9 hSw; (try dsimp only at hSw); go_simp; (try with_reducible rfl))
        (try simp only [Act.put, List.getElem_toArray, List.getElem_cons_zero, List.getElem_cons_succ, List.setIfInBounds_toArray, List.set_cons_zero, List.set_cons_succ])
        refine wpS_take (i := 38) (v := ?_) rfl (by kernel_rfl) (fun _ _ _ h => h) (Or.inl ⟨by rfl, ?_⟩) (by assumption) ?_
        rotate_left
        · (intro w9 hSw; (try dsimp only at hSw); go_simp; (try with_reducible rfl))
        (try simp only [Act.put, List.getElem_toArray, List.getElem_cons_zero, List.getElem_cons_succ, List.setIfInBounds_toArray, List.set_cons_zero, List.set_cons_succ])
        refine wpS_take (i := 39) (v := ?_) rfl (by kernel_rfl) (fun _ _ _ h => h) (Or.inl ⟨by rfl, ?_⟩) (by assumption) ?_
        rotate_left
        · (intro w9 hSw; (try dsimp only at hSw); go_simp; (try with_reducible rfl))
        (try simp only [Act.put, List.getElem_toArray, List.getElem_cons_zero, List.getElem_cons_succ, List.setIfInBounds_toArray, List.set_cons_zero, List.set_cons_succ])
        refine wpS_take (i := 40) (v := ?_) rfl (by kernel_rfl) (fun _ _ _ h => h) (Or.inl ⟨by rfl, ?_⟩) (by assumption) ?_
        rotate_left
        · (intro w9 hSw; (try dsimp only at hSw); go_simp; (try with_reducible rfl))
        (try simp only [Act.put, List.getElem_toArray, List.getElem_cons_zero, List.getElem_cons_succ, List.setIfInBounds_toArray, List.set_cons_zero, List.set_cons_succ])
        refine wpS_take (i := 41) (v := ?_) rfl (by kernel_rfl) (fun _ _ _ h => h) (Or.inl ⟨by rfl, ?_⟩) (by assumption) ?_
        rotate_left
        · (intro w9 hSw; (try dsimp only at hSw); go_simp; (try with_reducible rfl))
        (try simp only [Act.put, List.getElem_toArray, List.getElem_cons_zero, List.getElem_cons_succ, List.setIfInBounds_toArray, List.set_cons_zero, List.set_cons_succ])
        refine wpS_take (i := 42) (v := ?_) rfl (by kernel_rfl) (fun _ _ _ h => h) (Or.inl ⟨by rfl, ?_⟩) (by assumption) ?_
        rotate_left
        · (intro w9 hSw; (try dsimp only at hSw); go_simp; (try with_reducible rfl))
        (try simp only [Act.put, List.getElem_toArray, List.getElem_cons_zero, List.getElem_cons_succ, List.setIfInBounds_toArray, List.set_cons_zero, List.set_cons_succ])
        refine wpS_take (i := 43) (v := ?_) rfl (by kernel_rfl) (fun _ _ _ h => h) (Or.inl ⟨by rfl, ?_⟩) (by assumption) ?_
        rotate_left
        · (intro w9 hSw; (try dsimp only at hSw); go_simp; (try with_reducible rfl))
        (try simp only [Act.put, List.getElem_toArray, List.getElem_cons_zero, List.getElem_cons_succ, List.setIfInBounds_toArray, List.set_cons_zero, List.set_cons_succ])
        refine wpS_take (i := 44) (v := ?_) rfl (by kernel_rfl) (fun _ _ _ h => h) (Or.inl ⟨by rfl, ?_⟩) (by assumption) ?_
        rotate_left
        · (intro w9 hSw; (try dsimp only at hSw); go_simp; (try with_reducible rfl))
        (try simp only [Act.put, List.getElem_toArray, List.getElem_cons_zero, List.getElem_cons_succ, List.setIfInBounds_toArray, List.set_cons_zero, List.set_cons_succ])
        refine wpS_take (i := 45) (v := ?_) rfl (by kernel_rfl) (fun _ _ _ h => h) (Or.inl ⟨by rfl, ?_⟩) (by assumption) ?_
        rotate_left
        · (intro w9 hSw; (try dsimp only at hSw); go_simp; (try with_reducible rfl))
        (try simp only [Act.put, List.getElem_toArray, List.getElem_cons_zero, List.getElem_cons_succ, List.setIfInBounds_toArray, List.set_cons_zero, List.set_cons_succ])
        refine wpS_ready (rs := [46]) (by kernel_rfl) (by simp) ?_
        refine AllReadyS.last rfl (by kernel_rfl) (fun K hK => ?_)
        go_simp
        refine hK.out _ _ ?_
        clear hK K
        (try simp only [Act.put, List.getElem_toArray, List.getElem_cons_zero, List.getElem_cons_succ, List.setIfInBounds_toArray, List.set_cons_zero, List.set_cons_succ])
        refine wpS_done (by kernel_rfl) ?_ _
        go_wp2_with fail
        go_roundw
        case rel => exact ⟨k + 1, hlt, by go_num, Lib.hid (SN.out.drop.drop)⟩
        case measure => simp [intOf] <;> omega
    · obtain rfl : k = M.length := by omega
      have k3 := SN.out.box (g := b3) (cs := #[.slice A7 zs2.length c7, .slice A8 x.spots.length c8]) (t := 46) (by repeat (first | with_reducible exact List.mem_cons_self | with_reducible exact List.Mem.head _ | refine List.Mem.tail _ ?_))
      have k4 := SN.out.box (g := b3 + 1) (cs := #[.slice A4 zs3.length c4, .slice A5 y.spots.length c5]) (t := 46) (by repeat (first | with_reducible exact List.mem_cons_self | with_reducible exact List.Mem.head _ | refine List.Mem.tail _ ?_))
      go_wp2_with fail
      refine (iMoved_any _ _ y x _ (HY.out _ _ SN.out (by repeat (first | with_reducible exact List.mem_cons_self | with_reducible exact List.Mem.head _ | refine List.Mem.tail _ ?_))) (HX.out _ _ SN.out (by repeat (first | with_reducible exact List.mem_cons_self | with_reducible exact List.Mem.head _ | refine List.Mem.tail _ ?_))) (by omega) (by omega)).mono ?_
      rw [HC.out, HM.out]
      intro e w8 hm
      obtain ⟨v8, f8, rfl, SN1⟩ := SN.out.gotInts hm
      have SQ := Lib.hid SN1
      clear SN SN1 hm k3 k4
      have SN := SQ
      clear SQ
      go_wp2_with fail
      refine (sameInts_any _ _ M M _ (OInts.read (SN.out.list (.head _)) (by omega)) (OInts.read (SN.out.list (.tail _ (.head _))) (by omega))).mono ?_
      rintro e w9 ⟨rfl, hb9⟩
      rw [show decide (M = M) = true from decide_eq_true rfl]
      go_wp2
      go_ret
      exact ⟨rfl, (SN.out.next hb9).low⟩
set_option maxRecDepth 100000 in
theorem FnMoved_lifted (os : Os) (started : os.Started) (H : Type) (enc : TypeId × Value → H) :
    ReturnsInHanded {} Tryz.checked os 8 .any (Rows.fnMovedSpec.pre6 enc Tryz.prog Tryz.f8 Rows.fnMovedRow.domain false) (Rows.fnMovedSpec.post enc Tryz.prog Tryz.f8 false true false false) := by
  refine returnsInHanded_of_change (C := Tryz.checked) own_ started (by kernel_rfl) Tryz.func8
    (ChangeSpec.witness6 (enc := enc) (C := Tryz.checked) false ⟨#[], #[.slice none 0 0], []⟩ 8 (by kernel_rfl) (by kernel_rfl) (by kernel_rfl) (by kernel_rfl)) ?_
  intro W base args ds gs before hval0 hW hcnd _
  have hval : ∀ (j : Nat) t v, Tryz.f8.params[j]? = some t → args[j]? = some v → Value.okWide Tryz.prog W .any base t v := hval0
  have hW' := hW
  obtain ⟨p, q, hA0, hV, rfl, hfz, hnd⟩ := hW
  have hA : DataW.TrodAll enc Tryz.prog W 0 (fun _ => true) true Tryz.f8.params.toList args.toList ds p := hA0
  rw [Tryz.params8] at hA hval
  obtain ⟨v0, vs0, d0, ds0, p0, q0, hargs, rfl, rfl, h0, r0⟩ := trodAll_cons hA
  obtain ⟨rfl, rfl, rfl⟩ := trodAll_nil r0
  obtain rfl : args = #[v0] := by cases args; simp_all
  obtain ⟨rfl, rfl⟩ := trodVars_none hV
  clear hA0 hval0 hA
  simp only [List.append_nil] at hW'
  have hlt : ∀ x ∈ p0, x.block < W.heap.size := fun x hx => hW'.lt x (by simpa using hx)
  have k0 := h0
  have w0 := read_Bytes (hval 0 63 v0 rfl rfl) h0 (fun x hx => hlt x (by simp [hx]))
  refine (FnMoved_walk v0 W w0).mono fun e W' ⟨he, hb⟩ => ?_
  subst he
  exact ⟨_, rfl, post_of_below (pa := p0 ++ []) (pv := []) hW' (fun _ _ _ => (trodAll_cons_mk (shut_bool Tryz.underlying4 _) trodAll_mk0)) (fun sp hsp => (trodAll_cons_mk (stays laidOut_ (by kernel_rfl) (of_decide_eq_true (by kernel_rfl)) k0 hb (fun x hx => hlt x (by simp [hx])) (fun x hx => hsp x (by simp [hx]))) trodAll_mk0)) (fun _ _ => rfl) (by simp) hb
    (ok_one (by kernel_rfl) rfl (okWide_bool_mk Tryz.underlying4 _))⟩
theorem FnMoved_inPlace : (Rows.fnMovedRow.inPlace == Tryz.prog.inPlace 8) = true := by kernel_rfl
theorem FnMoved_unfollowed : (Rows.fnMovedRow.unfollowed == Tryz.prog.unfollowed 8) = true := by kernel_rfl
theorem FnMoved_recurses : (Rows.fnMovedRow.recurses == Tryz.prog.recurses 8) = true := by kernel_rfl
theorem FnMoved_named : (Rows.fnMovedRow.named == Tryz.prog.varsNamed 8) = true := by kernel_rfl
theorem FnMoved_closed : joinedFacts Tryz.prog 8 Tryz.f8 Rows.fnMovedSpec Rows.fnMovedRow = true := by
  unfold joinedFacts
  rw [laidOut_, fx_maps, fx_stops, fx_stopKnobs, fx_plain, fx_heard, fx_may, fx_lift, FnMoved_inPlace, FnMoved_unfollowed, FnMoved_recurses, FnMoved_named]
  kernel_rfl
theorem FnMoved_over : Rows.fnMovedRow.holds Tryz.pinned (OpenSpec.ofChange Rows.fnMovedSpec) :=
  OpenClaim.holds_of_wide 8 Tryz.f8 rfl rfl rfl rfl rfl rfl rfl ⟨rfl, rfl, rfl, rfl, rfl⟩ rfl rfl rfl rfl rfl (by kernel_rfl) Tryz.func8 FnMoved_closed
    (of_decide_eq_true (by kernel_rfl)) (by unfold Func.isWrapper; first | (rw [if_pos (by decide +kernel)]; kernel_rfl) | (rw [if_neg (by decide +kernel)]; exact ⟨rfl, rfl⟩))
    (fun os started H enc _ => FnMoved_lifted os started H enc)
theorem FnMoved_proved : Rows.FnMovedSaid := FnMoved_over
end Go.Proofs.YtioijfplbgpjpaaGreat
