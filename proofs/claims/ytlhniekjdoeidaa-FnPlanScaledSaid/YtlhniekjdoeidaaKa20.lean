/-
  A plan and a number to scale it by, drawn: the reference's walk.
-/
import Derived.Test.YtlhniekjdoeidaaKa19
import Derived.Deep.RegionHeld3
import Derived.Deep.DeepCutAuto
import Derived.StillTailTactics
import Derived.Test.YtlhniekjdoeidaaKa03
namespace Go.Proofs.Ytlhniekjdoeidaa
set_option linter.unusedVariables false
set_option linter.unusedSimpArgs false
set_option maxRecDepth 100000
open Go.RowKit Go.WideShapes Go.ChangeShapes Go.ChangeAt Go.Deep
set_option maxRecDepth 100000 in
set_option maxHeartbeats 40000000 in
theorem DrawPlanScaled_any (v : Value) (xs : List Int) (w W : World) (L : List Fact) (hS : Sit w W L) (hx : RBytes w w.heap.size v xs) : Calls Try.prog 10 #[v] W fun e w' => ∃ vc vs x fq n, e = .returned (.tuple #[.agg #[vc, vs], .int .i64 n]) ∧ Sit w w' (fRp vc vs x fq :: L) ∧ PlanSmall x := by
  have HB := Lib.hid hx
  have SN := Lib.hid (hS.alloc #[.slice none 0 0, .slice none 0 0] 30)
  clear hS hx
  go_enter Try.func10, Try.ntmps10
  go_wp2_with fail
  refine (l13Draw_any v xs _ _ _ SN.out HB.out).mono ?_
  rintro e w1 ⟨u, r, fp, vc, vs, x, fq, rfl, SN1, hbk, hsx⟩
  obtain ⟨vp, vt, vi, rfl, ⟨A1, c1, rfl, _⟩, ⟨A2, c2, rfl, _⟩, ⟨A3, c3, rfl, _⟩⟩ := SN1.on _ (.head _)
  obtain ⟨zs2, hz2, ⟨A7, c7, rfl, _⟩, _, ⟨A8, c8, rfl, _⟩⟩ := SN1.on _ (.tail _ (.head _))
  have hbt := SN1.boxlt (.tail _ (.tail _ (.head _)))
  have HSX := Lib.hid hsx
  clear hz2 hsx hbk
  have SQ := Lib.hid ((SN1.alloc #[.int .i64 r.way, .int .i64 r.pallet.w, .int .i64 r.pallet.d, .int .i64 r.pallet.h, .int .i64 r.pallet.gram, .int .i64 r.classes, .slice A1 r.pairs.length c1, .slice A2 r.types.length c2, .int .i64 r.master, .slice A3 r.items.length c3] 50).alloc #[.slice A7 zs2.length c7, .slice A8 x.spots.length c8] 30)
  simp only [World.size_alloc] at SQ
  obtain ⟨b4, hb4⟩ : ∃ b, w1.heap.size = b := ⟨_, rfl⟩
  rw [hb4] at SQ hbt
  clear SN SN1
  have SN := SQ
  clear SQ
  go_upto_region 2 with fail
  generalize (w1.alloc (.cells #[.int .i64 r.way, .int .i64 r.pallet.w, .int .i64 r.pallet.d, .int .i64 r.pallet.h, .int .i64 r.pallet.gram, .int .i64 r.classes, .slice A1 r.pairs.length c1, .slice A2 r.types.length c2, .int .i64 r.master, .slice A3 r.items.length c3] 50)).alloc (.cells #[.slice A7 zs2.length c7, .slice A8 x.spots.length c8] 30) = W3 at SN ⊢
  clear hb4
  have hn1 : ¬ (W.heap.size = b4 + 1) := by omega
  have hn2 : ¬ (b4 + 1 = W.heap.size) := by omega
  have k4 := SN.out.box (g := b4 + 1) (cs := #[.slice A7 zs2.length c7, .slice A8 x.spots.length c8]) (t := 30) (by repeat (first | with_reducible exact List.mem_cons_self | with_reducible exact List.Mem.head _ | refine List.Mem.tail _ ?_)); have k40 := k4 0; have k41 := k4 1; simp at k40 k41; have k2 := SN.out.box (g := W.heap.size) (t := 30) (by repeat (first | with_reducible exact List.mem_cons_self | with_reducible exact List.Mem.head _ | refine List.Mem.tail _ ?_)); have f2 := SN.out.free (g := W.heap.size) (t := 30) (by repeat (first | with_reducible exact List.mem_cons_self | with_reducible exact List.Mem.head _ | refine List.Mem.tail _ ?_))
  refine wp_region_S (S := (fun W' => W'.cell? ⟨b4 + 1, 0, none⟩ = some (.slice A7 zs2.length c7) ∧ W'.cell? ⟨b4 + 1, 1, none⟩ = some (.slice A8 x.spots.length c8))) (by kernel_rfl) ?_ (fun hHeld => ?_)
  · (first | exact ⟨k40, k41⟩ | go_keep)
  refine wpS_take (i := 0) (v := ?_) rfl (by kernel_rfl) (fun _ _ _ h => h) (Or.inl ⟨by rfl, ?_⟩) (by assumption) ?_
  rotate_left
  · (intro w9 hSw; (try dsimp only at hSw); go_simp; (try with_reducible rfl))
  (try simp only [Act.put, List.setIfInBounds_toArray, List.set_cons_zero, List.set_cons_succ])
  refine wpS_take (i := 1) (v := ?_) rfl (by kernel_rfl) (fun _ _ _ h => h) (Or.inl ⟨by rfl, ?_⟩) (by assumption) ?_
  rotate_left
  · (intro w9 hSw; (try dsimp only at hSw); go_simp; (try with_reducible rfl))
  (try simp only [Act.put, List.setIfInBounds_toArray, List.set_cons_zero, List.set_cons_succ])
  refine wpS_ready (rs := [2, 3]) (by kernel_rfl) (by simp) ?_
  refine AllReadyS.cons rfl (by kernel_rfl) (fun K hK => ?_) ?_
  · go_simp
    ((go_at_call 15; (first | with_reducible refine Sit.calls0 SN.out (fun SN0 => ?_) | with_reducible refine Sit.calls1 SN.out (fun SN0 => ?_) | with_reducible refine Sit.calls2 SN.out (fun SN0 => ?_) | with_reducible refine Sit.calls0d SN.out (fun SN0 => ?_) | with_reducible refine Sit.calls1d SN.out (fun SN0 => ?_) | with_reducible refine Sit.calls2d SN.out (fun SN0 => ?_)); (try simp only [World.size_alloc, World.size_drew] at SN0); refine (new_sit SN0 HB.out).mono ?_; rintro e w6 ⟨g, rfl, SN1⟩; have SN2 := Lib.hid SN1; clear SN SN0 SN1; have SN := SN2; clear SN2; have k4 := SN.out.box (g := b4 + 1) (cs := #[.slice A7 zs2.length c7, .slice A8 x.spots.length c8]) (t := 30) (by repeat (first | with_reducible exact List.mem_cons_self | with_reducible exact List.Mem.head _ | refine List.Mem.tail _ ?_)); have k40 := k4 0; have k41 := k4 1; simp at k40 k41; have k2 := SN.out.box (g := W.heap.size) (t := 30) (by repeat (first | with_reducible exact List.mem_cons_self | with_reducible exact List.Mem.head _ | refine List.Mem.tail _ ?_)); have f2 := SN.out.free (g := W.heap.size) (t := 30) (by repeat (first | with_reducible exact List.mem_cons_self | with_reducible exact List.Mem.head _ | refine List.Mem.tail _ ?_))))
    refine hK.out _ _ ?_ (fun hHeld => ?_)
    · (first | exact ⟨k40, k41⟩ | go_keep)
    clear hK K
    (try simp only [Act.put, List.setIfInBounds_toArray, List.set_cons_zero, List.set_cons_succ])
    refine wpS_ready (rs := [3]) (by kernel_rfl) (by simp) ?_
    refine AllReadyS.cons rfl (by kernel_rfl) (fun K hK => ?_) AllReadyS.nil
    go_simp
    refine hK.out _ _ ?_ (fun hHeld => ?_)
    · (first | exact ⟨k40, k41⟩ | go_keep)
    clear hK K
    (try simp only [Act.put, List.setIfInBounds_toArray, List.set_cons_zero, List.set_cons_succ])
    refine wpS_ready (rs := [4]) (by kernel_rfl) (by simp) ?_
    refine AllReadyS.cons rfl (by kernel_rfl) (fun K hK => ?_) AllReadyS.nil
    go_simp
    ((go_at_call 21; (first | with_reducible refine Sit.calls0 SN.out (fun SN0 => ?_) | with_reducible refine Sit.calls1 SN.out (fun SN0 => ?_) | with_reducible refine Sit.calls2 SN.out (fun SN0 => ?_) | with_reducible refine Sit.calls0d SN.out (fun SN0 => ?_) | with_reducible refine Sit.calls1d SN.out (fun SN0 => ?_) | with_reducible refine Sit.calls2d SN.out (fun SN0 => ?_)); (try simp only [World.size_alloc, World.size_drew] at SN0); refine (pick_sit SN0 HB.out (by repeat (first | with_reducible exact List.mem_cons_self | with_reducible exact List.Mem.head _ | refine List.Mem.tail _ ?_)) (by repeat (first | with_reducible exact List.mem_cons_self | with_reducible exact List.Mem.head _ | refine List.Mem.tail _ ?_)) _ _ (by rfl) (by decide) (by decide) (by simp)).mono ?_; rintro e w1 ⟨y, rfl, SN1, T1⟩; have SN2 := Lib.hid SN1; clear SN SN0 SN1 T1; have SN := SN2; clear SN2; have k4 := SN.out.box (g := b4 + 1) (cs := #[.slice A7 zs2.length c7, .slice A8 x.spots.length c8]) (t := 30) (by repeat (first | with_reducible exact List.mem_cons_self | with_reducible exact List.Mem.head _ | refine List.Mem.tail _ ?_)); have k40 := k4 0; have k41 := k4 1; simp at k40 k41; have k2 := SN.out.box (g := W.heap.size) (t := 30) (by repeat (first | with_reducible exact List.mem_cons_self | with_reducible exact List.Mem.head _ | refine List.Mem.tail _ ?_)); have f2 := SN.out.free (g := W.heap.size) (t := 30) (by repeat (first | with_reducible exact List.mem_cons_self | with_reducible exact List.Mem.head _ | refine List.Mem.tail _ ?_))))
    refine hK.out _ _ ?_ (fun hHeld => ?_)
    · (first | exact ⟨k40, k41⟩ | go_keep)
    clear hK K
    (try simp only [Act.put, List.setIfInBounds_toArray, List.set_cons_zero, List.set_cons_succ])
    refine wpS_ready (rs := [5]) (by kernel_rfl) (by simp) ?_
    refine AllReadyS.cons rfl (by kernel_rfl) (fun K hK => ?_) AllReadyS.nil
    go_simp
    refine hK.out _ _ ?_ (fun hHeld => ?_)
    · (first | exact ⟨k40, k41⟩ | go_keep)
    clear hK K
    (try simp only [Act.put, List.setIfInBounds_toArray, List.set_cons_zero, List.set_cons_succ])
    refine wpS_ready (rs := [6]) (by kernel_rfl) (by simp) ?_
    refine AllReadyS.last rfl (by kernel_rfl) (fun K hK => ?_)
    go_simp
    refine hK.out _ _ ?_
    clear hK K
    (try simp only [Act.put, List.setIfInBounds_toArray, List.set_cons_zero, List.set_cons_succ])
    refine wpS_done (by kernel_rfl) ?_ _
    go_wp2_with fail
    refine bodyPost_ret (v := .tuple #[.agg #[.slice A7 zs2.length c7, .slice A8 x.spots.length c8], .int .i64 y]) (by simp [results, Try.results10, go_sem, k2, f2]) rfl ?_
    exact ⟨_, _, x, _, y, rfl, (((SN.out.sub (.cons _ (.cons _ (.cons _ (.cons _ (.cons _ (.cons_cons _ (.cons_cons _ (List.Sublist.refl _))))))))).rot2.overL [.slice A7 zs2.length c7, .slice A8 x.spots.length c8] 0).drop), HSX.out⟩
  refine AllReadyS.cons rfl (by kernel_rfl) (fun K hK => ?_) ?_
  · go_simp
    refine hK.out _ _ ?_ (fun hHeld => ?_)
    · (first | exact ⟨k40, k41⟩ | go_keep)
    clear hK K
    (try simp only [Act.put, List.setIfInBounds_toArray, List.set_cons_zero, List.set_cons_succ])
    refine wpS_ready (rs := [2]) (by kernel_rfl) (by simp) ?_
    refine AllReadyS.cons rfl (by kernel_rfl) (fun K hK => ?_) AllReadyS.nil
    go_simp
    ((go_at_call 15; (first | with_reducible refine Sit.calls0 SN.out (fun SN0 => ?_) | with_reducible refine Sit.calls1 SN.out (fun SN0 => ?_) | with_reducible refine Sit.calls2 SN.out (fun SN0 => ?_) | with_reducible refine Sit.calls0d SN.out (fun SN0 => ?_) | with_reducible refine Sit.calls1d SN.out (fun SN0 => ?_) | with_reducible refine Sit.calls2d SN.out (fun SN0 => ?_)); (try simp only [World.size_alloc, World.size_drew] at SN0); refine (new_sit SN0 HB.out).mono ?_; rintro e w6 ⟨g, rfl, SN1⟩; have SN2 := Lib.hid SN1; clear SN SN0 SN1; have SN := SN2; clear SN2; have k4 := SN.out.box (g := b4 + 1) (cs := #[.slice A7 zs2.length c7, .slice A8 x.spots.length c8]) (t := 30) (by repeat (first | with_reducible exact List.mem_cons_self | with_reducible exact List.Mem.head _ | refine List.Mem.tail _ ?_)); have k40 := k4 0; have k41 := k4 1; simp at k40 k41; have k2 := SN.out.box (g := W.heap.size) (t := 30) (by repeat (first | with_reducible exact List.mem_cons_self | with_reducible exact List.Mem.head _ | refine List.Mem.tail _ ?_)); have f2 := SN.out.free (g := W.heap.size) (t := 30) (by repeat (first | with_reducible exact List.mem_cons_self | with_reducible exact List.Mem.head _ | refine List.Mem.tail _ ?_))))
    refine hK.out _ _ ?_ (fun hHeld => ?_)
    · (first | exact ⟨k40, k41⟩ | go_keep)
    clear hK K
    (try simp only [Act.put, List.setIfInBounds_toArray, List.set_cons_zero, List.set_cons_succ])
    refine wpS_ready (rs := [4]) (by kernel_rfl) (by simp) ?_
    refine AllReadyS.cons rfl (by kernel_rfl) (fun K hK => ?_) AllReadyS.nil
    go_simp
    ((go_at_call 21; (first | with_reducible refine Sit.calls0 SN.out (fun SN0 => ?_) | with_reducible refine Sit.calls1 SN.out (fun SN0 => ?_) | with_reducible refine Sit.calls2 SN.out (fun SN0 => ?_) | with_reducible refine Sit.calls0d SN.out (fun SN0 => ?_) | with_reducible refine Sit.calls1d SN.out (fun SN0 => ?_) | with_reducible refine Sit.calls2d SN.out (fun SN0 => ?_)); (try simp only [World.size_alloc, World.size_drew] at SN0); refine (pick_sit SN0 HB.out (by repeat (first | with_reducible exact List.mem_cons_self | with_reducible exact List.Mem.head _ | refine List.Mem.tail _ ?_)) (by repeat (first | with_reducible exact List.mem_cons_self | with_reducible exact List.Mem.head _ | refine List.Mem.tail _ ?_)) _ _ (by rfl) (by decide) (by decide) (by simp)).mono ?_; rintro e w1 ⟨y, rfl, SN1, T1⟩; have SN2 := Lib.hid SN1; clear SN SN0 SN1 T1; have SN := SN2; clear SN2; have k4 := SN.out.box (g := b4 + 1) (cs := #[.slice A7 zs2.length c7, .slice A8 x.spots.length c8]) (t := 30) (by repeat (first | with_reducible exact List.mem_cons_self | with_reducible exact List.Mem.head _ | refine List.Mem.tail _ ?_)); have k40 := k4 0; have k41 := k4 1; simp at k40 k41; have k2 := SN.out.box (g := W.heap.size) (t := 30) (by repeat (first | with_reducible exact List.mem_cons_self | with_reducible exact List.Mem.head _ | refine List.Mem.tail _ ?_)); have f2 := SN.out.free (g := W.heap.size) (t := 30) (by repeat (first | with_reducible exact List.mem_cons_self | with_reducible exact List.Mem.head _ | refine List.Mem.tail _ ?_))))
    refine hK.out _ _ ?_ (fun hHeld => ?_)
    · (first | exact ⟨k40, k41⟩ | go_keep)
    clear hK K
    (try simp only [Act.put, List.setIfInBounds_toArray, List.set_cons_zero, List.set_cons_succ])
    refine wpS_ready (rs := [5]) (by kernel_rfl) (by simp) ?_
    refine AllReadyS.cons rfl (by kernel_rfl) (fun K hK => ?_) AllReadyS.nil
    go_simp
    refine hK.out _ _ ?_ (fun hHeld => ?_)
    · (first | exact ⟨k40, k41⟩ | go_keep)
    clear hK K
    (try simp only [Act.put, List.setIfInBounds_toArray, List.set_cons_zero, List.set_cons_succ])
    refine wpS_ready (rs := [6]) (by kernel_rfl) (by simp) ?_
    refine AllReadyS.last rfl (by kernel_rfl) (fun K hK => ?_)
    go_simp
    refine hK.out _ _ ?_
    clear hK K
    (try simp only [Act.put, List.setIfInBounds_toArray, List.set_cons_zero, List.set_cons_succ])
    refine wpS_done (by kernel_rfl) ?_ _
    go_wp2_with fail
    refine bodyPost_ret (v := .tuple #[.agg #[.slice A7 zs2.length c7, .slice A8 x.spots.length c8], .int .i64 y]) (by simp [results, Try.results10, go_sem, k2, f2]) rfl ?_
    exact ⟨_, _, x, _, y, rfl, (((SN.out.sub (.cons _ (.cons _ (.cons _ (.cons _ (.cons _ (.cons_cons _ (.cons_cons _ (List.Sublist.refl _))))))))).rot2.overL [.slice A7 zs2.length c7, .slice A8 x.spots.length c8] 0).drop), HSX.out⟩
  exact AllReadyS.nil
end Go.Proofs.Ytlhniekjdoeidaa

/-
  A plan of the walk's own among a walk's facts; a draw's plan and its bulk. No function is named here.
-/
namespace Go.Proofs.Ytlhniekjdoeidaa
set_option linter.unusedVariables false
set_option linter.unusedSimpArgs false
set_option maxRecDepth 100000
open Go.RowKit
section
variable {α : Type} {e K : Nat} {E : World → List Value → α → List Nat → Prop} {w w' : World} {base : Nat} {v : Value} {xs : List α} {fp : List Nat}
theorem lt_of_keep {W W' : World} {b : Nat} (hb : b < W.heap.size) (h : W'.heap[b]? = W.heap[b]?) : b < W'.heap.size := by
  rw [Array.getElem?_eq_getElem hb] at h
  exact (Array.getElem?_eq_some_iff.1 h).1
theorem OL.keepF (h : OL e K E w base v xs fp) (hE : EFr E) (hk : ∀ b ∈ fp, w'.heap[b]? = w.heap[b]?) : OL e K E w' base v xs fp := by
  obtain ⟨cs, ifp, h1, rfl, h3, h4, h5⟩ := h
  refine ⟨cs, ifp, own_block h1 (fun g hg => hk g (by simp [hg])), rfl, h3, fun b hb => ⟨(h4 b hb).1, lt_of_keep (h4 b hb).2 (hk b hb)⟩, h5.keep hE (fun b hb => hk b (by simp [hb]))⟩
end
theorem OPlan.keepF {w w' : World} {base : Nat} {v : Value} {p : Plan} {fp : List Nat} (h : OPlan w base v p fp) (hk : ∀ b ∈ fp, w'.heap[b]? = w.heap[b]?) : OPlan w' base v p fp := by
  obtain ⟨v1, v2, f1, f2, rfl, h1, h2, rfl, hn⟩ := h
  exact ⟨v1, v2, f1, f2, rfl, OL.keepF h1 ECarton_fr (fun b hb => hk b (by simp [hb])), OL.keepF h2 (eflat_fr _) (fun b hb => hk b (by simp [hb])), rfl, hn⟩
/-- a plan of the walk's own -/
abbrev fOP (base : Nat) (v : Value) (p : Plan) (fp : List Nat) : Fact := ⟨fun W => OPlan W base v p fp, fp⟩
theorem fOP_ok (base : Nat) (v : Value) (p : Plan) (fp : List Nat) : (fOP base v p fp).ok := fun _ _ h _ hk => OPlan.keepF h hk
section
variable {w W W' : World} {L : List Fact} {v : Value} {p : Plan} {fp : List Nat} {b : Nat}
theorem Sit.gotPlan (h : Sit w W L) (ho : OPlan W' W.heap.size v p fp) (hb : Below W.heap.size W W') : Sit w W' (fOP W.heap.size v p fp :: L) :=
  h.add hb _ (fOP_ok _ _ _ _) ho ho.lt
theorem Sit.op (h : Sit w W L) (hm : fOP b v p fp ∈ L) (hb : p.bulk ≤ 16777216) : RPlan 16777216 W W.heap.size v p := OPlan.read (h.on _ hm) hb
theorem PlanSmall.bulk (h : PlanSmall p) : p.bulk ≤ 10200 := by
  have : ∀ (cs : List Carton), (∀ c ∈ cs, c.units.length ≤ 100) → tot (fun c => c.units.length) cs ≤ 100 * cs.length := by
    intro cs
    induction cs with
    | nil => intro _; simp [tot]
    | cons c cs ih =>
      intro hc
      have h1 := hc c (by simp)
      have h2 := ih (fun d hd => hc d (by simp [hd]))
      simp only [tot, List.map_cons, List.sum_cons, List.length_cons] at h2 ⊢
      omega
  have h1 := this p.cartons h.units
  have h2 := h.cartons
  have h3 := h.spots
  unfold Plan.bulk
  omega
end
theorem planScaled_blk (p : Plan) (n : Int) : (planScaled p n).bulk = p.bulk := by
  unfold planScaled
  split
  · split
    · simp [Plan.bulk, planTimes]
    · rfl
  · rfl
end Go.Proofs.Ytlhniekjdoeidaa
