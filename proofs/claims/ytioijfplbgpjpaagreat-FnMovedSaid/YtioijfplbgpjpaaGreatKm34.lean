/-
  Two plans, drawn, the second packed the other way: the reference's walk.
-/
import Derived.Test.YtioijfplbgpjpaaGreatKm20
import Derived.Deep.RegionHeld3
import Derived.Deep.DeepCutAuto
import Derived.StillTailTactics
namespace Go.Proofs.YtioijfplbgpjpaaGreat
set_option linter.unusedVariables false
set_option linter.unusedSimpArgs false
set_option maxRecDepth 100000
open Go.RowKit Go.WideShapes Go.ChangeShapes Go.ChangeAt Go.Deep
theorem Sit.rway {w W : World} {l : List Fact} {r : Request} {vp vt vi : Value} {fp : List Nat} (h : Sit w W (fRq (.agg (r.row vp vt vi)) r fp :: l)) (n : Int) : Sit w W (fRq (.agg (Request.row ⟨n, r.pallet, r.classes, r.pairs, r.types, r.master, r.items⟩ vp vt vi)) ⟨n, r.pallet, r.classes, r.pairs, r.types, r.master, r.items⟩ fp :: l) := by
 obtain ⟨vp', vt', vi', hv, h1, h2, h3⟩ := h.on _ (.head _)
 have hv : r.row vp vt vi = r.row vp' vt' vi' := by injection hv
 have e1 : vp = vp' := congrArg (fun a : Array Value => a[6]!) hv
 have e2 : vt = vt' := congrArg (fun a : Array Value => a[7]!) hv
 have e3 : vi = vi' := congrArg (fun a : Array Value => a[9]!) hv
 subst e1 e2 e3
 exact h.grow (Tch.refl _ _) (fRq (.agg (Request.row ⟨n, r.pallet, r.classes, r.pairs, r.types, r.master, r.items⟩ vp vt vi)) ⟨n, r.pallet, r.classes, r.pairs, r.types, r.master, r.items⟩ fp) (fun _ hb => .inl hb) (fRq_ok _ _ _) ⟨vp, vt, vi, rfl, h1, h2, h3⟩
set_option maxRecDepth 100000 in
set_option maxHeartbeats 40000000 in
theorem DrawMoved_any (v : Value) (xs : List Int) (w W : World) (L : List Fact) (hS : Sit w W L) (hx : RBytes w w.heap.size v xs) : Calls Tryz.prog 44 #[v] W fun e w' => ∃ vc vs x fq vd vt y fr, e = .returned (.tuple #[.agg #[vc, vs], .agg #[vd, vt]]) ∧ Sit w w' (fRp vd vt y fr :: fRp vc vs x fq :: L) ∧ PlanSmall x ∧ PlanSmall y := by
 have HB := Lib.hid hx
 have SN := Lib.hid ((hS.alloc #[.slice none 0 0, .slice none 0 0] 46).alloc #[.slice none 0 0, .slice none 0 0] 46)
 simp only [World.size_alloc] at SN
 clear hS hx
 go_enter Tryz.func44, Tryz.ntmps44
 go_wp2_with fail
 refine (l13Draw_any v xs _ _ _ SN.out HB.out).mono ?_
 rintro e w1 ⟨u, r, fp, vc, vs, x, fq, rfl, SN1, hbk, hsx⟩
 obtain ⟨vp, vt, vi, rfl, ⟨A1, c1, rfl, _⟩, ⟨A2, c2, rfl, _⟩, ⟨A3, c3, rfl, _⟩⟩ := SN1.on _ (.head _)
 obtain ⟨zs2, hz2, ⟨A7, c7, rfl, _⟩, _, ⟨A8, c8, rfl, _⟩⟩ := RpOn.open (SN1.on _ (.tail _ (.head _)))
 have hbt := SN1.boxlt (.tail _ (.tail _ (.head _)))
 have HSX := Lib.hid hsx
 clear hz2 hsx
 have SQ := Lib.hid ((SN1.alloc #[.int .i64 r.way, .int .i64 r.pallet.w, .int .i64 r.pallet.d, .int .i64 r.pallet.h, .int .i64 r.pallet.gram, .int .i64 r.classes, .slice A1 r.pairs.length c1, .slice A2 r.types.length c2, .int .i64 r.master, .slice A3 r.items.length c3] 41).alloc #[.slice A7 zs2.length c7, .slice A8 x.spots.length c8] 46)
 simp only [World.size_alloc] at SQ
 obtain ⟨b4, hb4⟩ : ∃ b, w1.heap.size = b := ⟨_, rfl⟩
 rw [hb4] at SQ hbt
 clear SN SN1
 have SN := SQ
 clear SQ
 go_upto_region 2 with fail
 generalize (w1.alloc (.cells #[.int .i64 r.way, .int .i64 r.pallet.w, .int .i64 r.pallet.d, .int .i64 r.pallet.h, .int .i64 r.pallet.gram, .int .i64 r.classes, .slice A1 r.pairs.length c1, .slice A2 r.types.length c2, .int .i64 r.master, .slice A3 r.items.length c3] 41)).alloc (.cells #[.slice A7 zs2.length c7, .slice A8 x.spots.length c8] 46) = W3 at SN ⊢
 clear hb4
 have k4 := SN.out.box (g := b4) (cs := #[.int .i64 r.way, .int .i64 r.pallet.w, .int .i64 r.pallet.d, .int .i64 r.pallet.h, .int .i64 r.pallet.gram, .int .i64 r.classes, .slice A1 r.pairs.length c1, .slice A2 r.types.length c2, .int .i64 r.master, .slice A3 r.items.length c3]) (t := 41) (by repeat (first | with_reducible exact List.mem_cons_self | with_reducible exact List.Mem.head _ | refine List.Mem.tail _ ?_))
 have f4 := SN.out.free (g := b4) (cs := #[.int .i64 r.way, .int .i64 r.pallet.w, .int .i64 r.pallet.d, .int .i64 r.pallet.h, .int .i64 r.pallet.gram, .int .i64 r.classes, .slice A1 r.pairs.length c1, .slice A2 r.types.length c2, .int .i64 r.master, .slice A3 r.items.length c3]) (t := 41) (by repeat (first | with_reducible exact List.mem_cons_self | with_reducible exact List.Mem.head _ | refine List.Mem.tail _ ?_))
 have SQ := Lib.hid (SN.out.rot2.store 0 (.int .i64 (wrap64 (1 - r.way))))
 go_upto_region 3 with fail
 generalize W3.setCell ⟨b4, 0, none⟩ (.int .i64 (wrap64 (1 - r.way))) = W4 at SQ ⊢
 obtain ⟨n, hn⟩ : ∃ n, wrap64 (1 - r.way) = n := ⟨_, rfl⟩
 rw [hn] at SQ
 clear hn SN k4 f4
 have SN : Hid (Sit w W4 (fBox b4 #[.int .i64 n, .int .i64 r.pallet.w, .int .i64 r.pallet.d, .int .i64 r.pallet.h, .int .i64 r.pallet.gram, .int .i64 r.classes, .slice A1 r.pairs.length c1, .slice A2 r.types.length c2, .int .i64 r.master, .slice A3 r.items.length c3] 41 :: fBox (b4 + 1) #[.slice A7 zs2.length c7, .slice A8 x.spots.length c8] 46 :: fRq (.agg (r.row (.slice A1 r.pairs.length c1) (.slice A2 r.types.length c2) (.slice A3 r.items.length c3))) r fp :: fRp (.slice A7 zs2.length c7) (.slice A8 x.spots.length c8) x fq :: fBox (W.heap.size + 1) #[.slice none 0 0, .slice none 0 0] 46 :: fBox W.heap.size #[.slice none 0 0, .slice none 0 0] 46 :: L)) := SQ
 clear SQ
 have SQ := Lib.hid ((SN.out.rot3.rway n).ror3)
 clear SN
 have SN := SQ
 clear SQ
 obtain ⟨q, hq⟩ : ∃ q : Request, (⟨n, r.pallet, r.classes, r.pairs, r.types, r.master, r.items⟩ : Request) = q := ⟨_, rfl⟩
 have hqb : q.bulk ≤ 80 := by rw [← hq]; exact hbk
 rw [hq] at SN
 have k4 := SN.out.box (.head _)
 have hagg : Value.agg #[.int .i64 n, .int .i64 r.pallet.w, .int .i64 r.pallet.d, .int .i64 r.pallet.h, .int .i64 r.pallet.gram, .int .i64 r.classes, .slice A1 r.pairs.length c1, .slice A2 r.types.length c2, .int .i64 r.master, .slice A3 r.items.length c3] = .agg (q.row (.slice A1 r.pairs.length c1) (.slice A2 r.types.length c2) (.slice A3 r.items.length c3)) := by rw [← hq]
 have HQ := Lib.hid hagg
 clear hq hagg hbk
 go_wp2_with fail
 rw [HQ.out]
 refine (sPlanOf_any _ q _ (SN.out.rq (by repeat (first | with_reducible exact List.mem_cons_self | with_reducible exact List.Mem.head _ | refine List.Mem.tail _ ?_)) (by omega))).mono ?_
 rintro e3 w3 ⟨vd, vt, zs, f1, f2, f3, rfl, hz, hS3⟩
 obtain ⟨yy, hxp⟩ : ∃ y, planOf q = y := ⟨_, rfl⟩
 have hsm : yy.1.spots.length = yy.1.cartons.length ∧ yy.1.cartons.length ≤ 48 ∧ ∀ c ∈ yy.1.cartons, c.units.length ≤ 12 := by
  subst hxp
  cases hs : soundR q
  ·rw [plan_unsound hs]; simp
  ·refine ⟨plan_spots hs, ?_⟩
   have := cartons_len hs
   rw [plan_sound hs]
   exact this
 rw [hxp] at hz hS3 ⊢
 clear hxp k4
 obtain ⟨⟨YC, YS⟩, yb⟩ := yy
 dsimp only at hz hS3 hsm
 obtain ⟨A4, c4, rfl, _⟩ := (hS3.list (.head _)).form
 obtain ⟨A5, c5, rfl, _⟩ := (hS3.list (.tail _ (.tail _ (.head _)))).form
 have SQ := Lib.hid (SN.out.join hS3).toRp
 rw [hz] at SQ
 have hyl : zs.length = YC.length := map_fst_len hz
 have HPY := Lib.hid (show PlanSmall ⟨YC, YS⟩ from ⟨by show YC.length ≤ 100; omega, fun c hc => by have := hsm.2.2 c hc; omega, by show YS.length ≤ 100; omega⟩)
 clear SN hS3 hz hyl hsm
 have SN := Lib.hid (SQ.out.alloc #[.slice A4 zs.length c4, .slice A5 YS.length c5] 46)
 have hb54 : b4 + 1 < w3.heap.size := SQ.out.boxlt (.tail _ (.tail _ (.head _)))
 clear SQ
 obtain ⟨b6, hb6⟩ : ∃ b, w3.heap.size = b := ⟨_, rfl⟩
 rw [hb6] at SN hb54
 go_upto_region 4 with fail
 generalize w3.alloc (.cells #[.slice A4 zs.length c4, .slice A5 YS.length c5] 46) = W5 at SN ⊢
 clear hb6 HQ
 have hn1 : ¬ (W.heap.size = b4 + 1) := by omega
 have hn2 : ¬ (b4 + 1 = W.heap.size) := by omega
 have hn3 : ¬ (W.heap.size + 1 = b4 + 1) := by omega
 have hn4 : ¬ (b4 + 1 = W.heap.size + 1) := by omega
 have hn3' : ¬ (W.heap.size = b4) := by omega
 have hn4' : ¬ (b4 = W.heap.size) := by omega
 have hn5 : ¬ (W.heap.size = b6) := by omega
 have hn6 : ¬ (b6 = W.heap.size) := by omega
 have hn7 : ¬ (W.heap.size + 1 = b6) := by omega
 have hn8 : ¬ (b6 = W.heap.size + 1) := by omega
 have k4 := SN.out.box (g := b4 + 1) (cs := #[.slice A7 zs2.length c7, .slice A8 x.spots.length c8]) (t := 46) (by repeat (first | with_reducible exact List.mem_cons_self | with_reducible exact List.Mem.head _ | refine List.Mem.tail _ ?_))
 have k6 := SN.out.box (g := b6) (cs := #[.slice A4 zs.length c4, .slice A5 YS.length c5]) (t := 46) (by repeat (first | with_reducible exact List.mem_cons_self | with_reducible exact List.Mem.head _ | refine List.Mem.tail _ ?_))
 have m40 := k4 0
 have m41 := k4 1
 have m60 := k6 0
 have m61 := k6 1
 simp at m40 m41 m60 m61
 clear k4 k6
 have SF := Lib.hid (SN.out.sub (.cons _ (.cons_cons _ (.cons _ (.cons _ (.cons _ (.cons_cons _ (.cons_cons _ (.cons_cons _ (List.Sublist.refl _))))))))))
 have k2 := SF.out.box (g := W.heap.size) (t := 46) (by repeat (first | with_reducible exact List.mem_cons_self | with_reducible exact List.Mem.head _ | refine List.Mem.tail _ ?_))
 have f2 := SF.out.free (g := W.heap.size) (t := 46) (by repeat (first | with_reducible exact List.mem_cons_self | with_reducible exact List.Mem.head _ | refine List.Mem.tail _ ?_))
 have k3 := SF.out.box (g := W.heap.size + 1) (t := 46) (by repeat (first | with_reducible exact List.mem_cons_self | with_reducible exact List.Mem.head _ | refine List.Mem.tail _ ?_))
 have f3 := SF.out.free (g := W.heap.size + 1) (t := 46) (by repeat (first | with_reducible exact List.mem_cons_self | with_reducible exact List.Mem.head _ | refine List.Mem.tail _ ?_))
 refine wp_region_S (S := (fun W' => W'.cell? ⟨b4 + 1, 0, none⟩ = some (.slice A7 zs2.length c7) ∧ W'.cell? ⟨b4 + 1, 1, none⟩ = some (.slice A8 x.spots.length c8) ∧ W'.cell? ⟨b6, 0, none⟩ = some (.slice A4 zs.length c4) ∧ W'.cell? ⟨b6, 1, none⟩ = some (.slice A5 YS.length c5))) (by kernel_rfl) ?_ (fun hHeld => ?_)
 ·go_keep
 refine wpS_take (i := 0) (v := ?_) rfl (by kernel_rfl) (fun _ _ _ h => h) (Or.inl ⟨by rfl, ?_⟩) (by assumption) ?_
 rotate_left
 ·(intro w9 hSw; (try dsimp only at hSw); go_simp; (try with_reducible rfl))
 (try simp only [Act.put, List.getElem_toArray, List.getElem_cons_zero, List.getElem_cons_succ, List.setIfInBounds_toArray, List.set_cons_zero, List.set_cons_succ])
 refine wpS_take (i := 1) (v := ?_) rfl (by kernel_rfl) (fun _ _ _ h => h) (Or.inl ⟨by rfl, ?_⟩) (by assumption) ?_
 rotate_left
 ·(intro w9 hSw; (try dsimp only at hSw); go_simp; (try with_reducible rfl))
 (try simp only [Act.put, List.getElem_toArray, List.getElem_cons_zero, List.getElem_cons_succ, List.setIfInBounds_toArray, List.set_cons_zero, List.set_cons_succ])
 refine wpS_ready (rs := [2]) (by kernel_rfl) (by simp) ?_
 refine AllReadyS.cons rfl (by kernel_rfl) (fun K hK => ?_) AllReadyS.nil
 go_simp
 refine hK.out _ _ ?_ (fun hHeld => ?_)
 ·go_keep
 clear hK K
 (try simp only [Act.put, List.getElem_toArray, List.getElem_cons_zero, List.getElem_cons_succ, List.setIfInBounds_toArray, List.set_cons_zero, List.set_cons_succ])
 refine wpS_ready (rs := [3]) (by kernel_rfl) (by simp) ?_
 refine AllReadyS.last rfl (by kernel_rfl) (fun K hK => ?_)
 go_simp
 refine hK.out _ _ ?_
 clear hK K
 (try simp only [Act.put, List.getElem_toArray, List.getElem_cons_zero, List.getElem_cons_succ, List.setIfInBounds_toArray, List.set_cons_zero, List.set_cons_succ])
 refine wpS_done (by kernel_rfl) ?_ _
 go_wp2_with fail
 refine bodyPost_ret (v := .tuple #[.agg #[.slice A7 zs2.length c7, .slice A8 x.spots.length c8], .agg #[.slice A4 zs.length c4, .slice A5 YS.length c5]]) (by simp [results, Tryz.results44, go_sem, k2, f2, k3, f3]) rfl ?_
 exact ⟨_, _, x, _, _, _, ⟨YC, YS⟩, _, rfl, ((((SF.out.rot4.overL [.slice A7 zs2.length c7, .slice A8 x.spots.length c8] 0).rot4.overL [.slice A4 zs.length c4, .slice A5 YS.length c5] 0).drop.drop).drew), HSX.out, HPY.out⟩
end Go.Proofs.YtioijfplbgpjpaaGreat
