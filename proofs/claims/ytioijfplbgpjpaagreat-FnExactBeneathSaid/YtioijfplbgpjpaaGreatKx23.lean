/-
  The walks over the laws' own helpers that write marks into cartons and plans of the call's own, and look whether they are still there.
-/
import Derived.Test.YtioijfplbgpjpaaGreatKx01
import Derived.Test.YtioijfplbgpjpaaGreatKx04
import Derived.Test.YtioijfplbgpjpaaGreatKx02
namespace Go.Proofs.YtioijfplbgpjpaaGreat
set_option linter.unusedVariables false
set_option linter.unusedSimpArgs false
set_option maxRecDepth 100000
open Go.RowKit
theorem flat_apart {fps : List (List Nat)} (h : fps.flatten.Nodup) {i j : Nat} {f f' : List Nat} (hi : fps[i]? = some f) (hj : fps[j]? = some f') (hne : i ≠ j) {b : Nat} (hb : b ∈ f) (hb' : b ∈ f') : False := by
 have h2 := (List.pairwise_flatten.1 h).2
 rw [List.pairwise_iff_getElem] at h2
 obtain ⟨h3, rfl⟩ := List.getElem?_eq_some_iff.1 hi
 obtain ⟨h4, rfl⟩ := List.getElem?_eq_some_iff.1 hj
 rcases Nat.lt_or_gt_of_ne hne with h5 | h5
 ·exact h2 i j h3 h4 h5 b hb b hb' rfl
 ·exact h2 j i h4 h3 h5 b hb' b hb rfl
section
variable {α : Type} {e K : Nat} {E : World → List Value → α → List Nat → Prop} {w w' : World} {base : Nat} {v : Value} {xs : List α} {fp : List Nat}
def Back (e K : Nat) (E : World → List Value → α → List Nat → Prop) (w : World) (base : Nat) (v : Value) (xs : List α) (fp f : List Nat) (g j : Nat) : Prop :=
 ∀ (w' : World) (ecs' : List Value) (x' : α), ecs'.length = K → w.heap.size ≤ w'.heap.size → w'.heap[g]? = (setW w g (j * K) ecs').heap[g]? → (∀ b ∈ fp, b ≠ g → b ∉ f → w'.heap[b]? = w.heap[b]?) → E w' ecs' x' f → OL e K E w' base v (xs.set j x') fp
theorem OL.elem (h : OL e K E w base v xs fp) (hE : EFr E) {j : Nat} {x : α} (hx : xs[j]? = some x) :
  ∃ g c ecs f, (∀ b ∈ fp, b < w.heap.size) ∧ v = .slice (some ⟨g, 0, none⟩) xs.length c ∧ base ≤ g ∧ g < w.heap.size ∧ g ∈ fp ∧ g ∉ f ∧ (∀ b ∈ f, b ∈ fp) ∧ ecs.length = K ∧ E w ecs x f ∧
   (∀ (t : Nat) (u : Value), ecs[t]? = some u → w.cell? ⟨g, j * K + t, none⟩ = some u) ∧ (∀ o, w.frozen? ⟨g, o, none⟩ = false) ∧ Back e K E w base v xs fp f g j := by
 obtain ⟨cs, ifp, h1, rfl, hnd, hbd, fps, rfl, hfl, h5⟩ := h
 have hj := (List.getElem?_eq_some_iff.1 hx).1
 obtain ⟨ecs, f, h6, h7, h8, h9⟩ := h5 j x hj hx
 rcases h1.2 with ⟨_, h0⟩ | ⟨g, cap, cur, rfl, hg, _⟩
 ·omega
 have hgm : g ∈ (Value.slice (some ⟨g, 0, none⟩) xs.length cap).ownBlock.toList ++ fps.flatten := by simp [Value.ownBlock]
 have hnd' := (List.nodup_append.1 hnd)
 have hfm : ∀ {f' : List Nat} {i : Nat}, fps[i]? = some f' → ∀ b ∈ f', b ∈ fps.flatten := fun hi b hb => List.mem_flatten.2 ⟨_, List.mem_of_getElem? hi, hb⟩
 have hgf : ∀ {f' : List Nat} {i : Nat}, fps[i]? = some f' → ∀ b ∈ f', b ≠ g := fun hi b hb e => hnd'.2.2 g (by simp [Value.ownBlock]) b (hfm hi b hb) e.symm
 refine ⟨g, cap, ecs, f, fun b hb => (hbd b hb).2, rfl, hg, (hbd g hgm).2, hgm, fun hm => hgf h7 g hm rfl, fun b hb => List.mem_append.2 (.inr (hfm h7 b hb)), h6, h8, fun t u hu => ?_, h1.frozenAt, fun w' ecs' x' hl hs hg' hk hE' => ?_⟩
 ·have ht := (List.getElem?_eq_some_iff.1 hu).1
  have hlt : j * K + t < xs.length * K := by
   have : (j + 1) * K ≤ xs.length * K := Nat.mul_le_mul_right _ hj
   rw [Nat.add_mul] at this
   omega
  rw [h1.cellAt _ hlt]
  exact h9 t u hu
 ·have hst := storedL ecs' cs w (j * K) h1
  have hle : j * K + K ≤ cs.length := by rw [h1.1, ← Nat.succ_mul]; exact Nat.mul_le_mul_right _ hj
  have hg2 := fun i => setL_get ecs' cs (j * K) i (by rw [hl]; exact hle)
  refine ⟨setL cs (j * K) ecs', fps.flatten, ?_, by simp, hnd, fun b hb => ⟨(hbd b hb).1, Nat.lt_of_lt_of_le (hbd b hb).2 hs⟩, fps, rfl, by simp [hfl], fun i y hi hy => ?_⟩
  ·rw [List.length_set]
   exact own_block hst (fun b hb => by simp [Value.ownBlock] at hb; rw [← hb, hg'])
  ·by_cases hij : i = j
   ·subst hij
    rw [List.getElem?_set_self hj] at hy
    injection hy with hy
    subst hy
    refine ⟨ecs', f, hl, h7, hE', fun t u hu => ?_⟩
    have ht := (List.getElem?_eq_some_iff.1 hu).1
    rw [hg2, if_pos (by omega), show i * K + t - i * K = t by omega, hu]
   ·rw [List.getElem?_set_ne (fun e => hij e.symm)] at hy
    obtain ⟨ecs2, f2, g1, g2, g3, g4⟩ := h5 i y (List.getElem?_eq_some_iff.1 hy).1 hy
    refine ⟨ecs2, f2, g1, g2, hE _ _ _ _ _ (fun b hb => hk b (List.mem_append.2 (.inr (hfm g2 b hb))) (hgf g2 b hb) (fun hb' => flat_apart hnd'.2.1 g2 h7 hij hb hb')) g3, fun t u hu => ?_⟩
    have ht := (List.getElem?_eq_some_iff.1 hu).1
    rw [hg2, if_neg ?_]
    ·exact g4 t u hu
    ·rcases Nat.lt_or_gt_of_ne hij with h | h
     ·have : (i + 1) * K ≤ j * K := Nat.mul_le_mul_right _ h
      rw [Nat.add_mul] at this
      omega
     ·have : (j + 1) * K ≤ i * K := Nat.mul_le_mul_right _ h
      rw [Nat.add_mul] at this
      omega
end
theorem setCell_same {w : World} {g o : Nat} {u : Value} (h : w.cell? ⟨g, o, none⟩ = some u) : (w.setCell ⟨g, o, none⟩ u).heap[g]? = w.heap[g]? := by
 unfold World.cell? at h
 simp only at h
 cases hg : w.heap[g]? with
 |none => simp [hg] at h
 |some ob =>
  rw [hg] at h
  obtain ⟨hlt, hg'⟩ := Array.getElem?_eq_some_iff.1 hg
  cases ob <;> simp at h
  rename_i c elem fr
  have : c.setIfInBounds o u = c := by
   apply Array.ext_getElem?
   intro i
   by_cases hi : i = o
   ·subst hi
    rw [Array.getElem?_setIfInBounds_self, h]
    have := (Array.getElem?_eq_some_iff.1 h).1
    simp [this]
   ·rw [Array.getElem?_setIfInBounds_ne (fun e => hi e.symm)]
  simp [World.setCell, Array.getElem?_modify, hg, this]
def mkC : Int → List Carton → List Carton
 |_, [] => []
 |k, c :: cs => ⟨k, k + 1, mkS 1 mkInt (k + 1 + 1) c.units.length⟩ :: mkC (k + 1 + 1 + ((c.units.length * 1 : Nat) : Int)) cs
def cntC : List Carton → Nat
 |[] => 0
 |c :: cs => 2 + c.units.length + cntC cs
theorem mkC_length : ∀ (cs : List Carton) (k : Int), (mkC k cs).length = cs.length
 |[], _ => rfl
 |c :: cs, k => by simp [mkC, mkC_length cs]
theorem cntC_append : ∀ (a b : List Carton), cntC (a ++ b) = cntC a + cntC b
 |[], b => by simp [cntC]
 |c :: a, b => by simp [cntC, cntC_append a b]; omega
theorem mkC_append : ∀ (a b : List Carton) (k : Int), mkC k (a ++ b) = mkC k a ++ mkC (k + (cntC a : Nat)) b
 |[], b, k => by simp [mkC, cntC]
 |c :: a, b, k => by
  simp only [List.cons_append, mkC, mkC_append a b, cntC]
  congr 3
  omega
theorem mkC_snoc {xs : List Carton} {j : Nat} {x : Carton} (hx : xs[j]? = some x) (k : Int) : mkC k (xs.take (j + 1)) = mkC k (xs.take j) ++ [⟨k + (cntC (xs.take j) : Nat), k + (cntC (xs.take j) : Nat) + 1, mkS 1 mkInt (k + (cntC (xs.take j) : Nat) + 1 + 1) x.units.length⟩] := by
 rw [List.take_add_one, hx, Option.toList_some, mkC_append]
 rfl
theorem cntC_snoc {xs : List Carton} {j : Nat} {x : Carton} (hx : xs[j]? = some x) : cntC (xs.take (j + 1)) = cntC (xs.take j) + (2 + x.units.length) := by
 rw [List.take_add_one, hx, Option.toList_some, cntC_append]
 rfl
theorem cntC_le : ∀ (xs : List Carton), cntC xs = 2 * xs.length + tot (fun c => c.units.length) xs
 |[] => rfl
 |c :: cs => by simp [cntC, tot, cntC_le cs]; omega
theorem cntC_take (xs : List Carton) (j : Nat) : cntC (xs.take j) ≤ cntC xs := by
 have h := cntC_append (xs.take j) (xs.drop j)
 rw [List.take_append_drop] at h
 omega
theorem set_mix {α : Type} {pre xs : List α} {j : Nat} (hp : pre.length = j) (hj : j < xs.length) (y : α) : (pre ++ xs.drop j).set j y = (pre ++ [y]) ++ xs.drop (j + 1) := by
 rw [← hp, List.set_append_right _ _ (Nat.le_refl _), Nat.sub_self, hp, List.drop_eq_getElem_cons hj, List.set_cons_zero]
 simp
set_option maxHeartbeats 400000 in
theorem markCartonS_any (v : Value) (xs : List Carton) (fp : List Nat) (k : Int) (base : Nat) (w : World) (h : OCartons w base v xs fp) (hb : cntC xs ≤ 16777216) (h0 : 0 ≤ k) (h1 : k ≤ 2147483648) :
  Calls Tryz.prog 111 #[v, .int .i64 k] w fun e w' => e = .returned (.int .i64 (k + (cntC xs : Nat))) ∧ OCartons w' base v (mkC k xs) fp ∧ Tch fp w w' := by
 obtain ⟨A, c, rfl⟩ := OL.form h
 have H := Lib.hid h
 have hlen : xs.length ≤ 16777216 := by rw [cntC_le] at hb; omega
 clear h
 go_enter Tryz.func111, Tryz.ntmps111
 go_wp2
 go_loopw [1, 5] (fun kk i wr => ∃ j : Nat, ∃ m : Int, j ≤ xs.length ∧ 0 ≤ m ∧ m ≤ 4294967296 ∧ kk = .int .i64 m ∧ i = .int .i64 j ∧ m = k + (cntC (xs.take j) : Nat) ∧ OCartons wr base (.slice A xs.length c) (mkC k (xs.take j) ++ xs.drop j) fp ∧ Tch fp w wr) (fun _ i _ => xs.length - (intOf i).toNat)
 case atStart => exact ⟨0, k, Nat.zero_le _, h0, by omega, rfl, rfl, by simp [cntC], by simpa [mkC] using H.out, Tch.refl _ _⟩
 case round =>
  obtain ⟨j, m, hj, hm0, hm1, rfl, rfl, hm, ho, ht⟩ := hrel
  have HM := Lib.hid hm
  by_cases hlt : j < xs.length
  ·obtain ⟨x, hx⟩ : ∃ x, xs[j]? = some x := ⟨_, List.getElem?_eq_getElem hlt⟩
   have hpl : (mkC k (xs.take j)).length = j := by rw [mkC_length, List.length_take]; omega
   have hx' : (mkC k (xs.take j) ++ xs.drop j)[j]? = some x := by rw [List.getElem?_append_right (by omega), hpl, Nat.sub_self, List.getElem?_drop]; simpa using hx
   have hcn := cntC_snoc hx
   have hct := cntC_take xs (j + 1)
   have hul : x.units.length ≤ 16777216 := by omega
   have hm3 : m + 2 + x.units.length ≤ 4294967296 := by omega
   have HCN := Lib.hid hcn
   obtain ⟨g, c', ecs, f, hfl, heq, hg1, hg2, hgf, hgn, hff, hel, ⟨vu, rfl, hou, rfl⟩, hcell, hfr, hback⟩ := OL.elem ho ECarton_fr hx'
   injection heq with e1 e2 e3
   subst e1
   subst e3
   clear e2
   have hc0 := hcell 0 _ rfl
   have hc1 := hcell 1 _ rfl
   have hc2 := hcell 2 _ rfl
   simp only [Nat.add_zero] at hc0
   have HB := Lib.hid hback
   have HX := Lib.hid hx
   have HT := Lib.hid ht
   have HP := Lib.hid hpl
   have HE := Lib.hid hff
   have hgu : ∀ b, vu.ownBlock = some b → b ≠ g := fun b hb e => hgn (by rw [hb]; simpa using e.symm)
   have hkeep : ∀ b, b ≠ g → (setW wr g (j * 3) [.int .i64 m, .int .i64 (m + 1)]).heap[b]? = wr.heap[b]? := fun b hb => heap_setW hb _ _ _
   have hou2 := own_block (w' := setW wr g (j * 3) [.int .i64 m, .int .i64 (m + 1)]) hou (fun b hb => hkeep b (hgu b hb))
   have HK := Lib.hid hkeep
   have HO := Lib.hid hou2
   clear hcell hx hx' hback ht hpl hm hcn hct ho hou hou2 hgu hff hkeep
   go_wp2_with fail
   refine (markIntS_any vu x.units (m + 1 + 1) 0 _ HO.out (by omega) (by omega) (by omega)).mono ?_
   rintro e w2 ⟨rfl, ho2, ht2⟩
   go_wp2
   go_roundw
   case rel =>
    have hm' := HM.out
    have hmk : mkC k (xs.take (j + 1)) = mkC k (xs.take j) ++ [⟨m, m + 1, mkS 1 mkInt (m + 1 + 1) x.units.length⟩] := by rw [mkC_snoc HX.out, hm']
    refine ⟨j + 1, _, hlt, ?_, ?_, rfl, by go_num, ?_, ?_, ?_⟩
    ·omega
    ·omega
    ·rw [HCN.out]; omega
    ·rw [hmk, ← set_mix HP.out hlt]
     refine HB.out w2 [.int .i64 m, .int .i64 (m + 1), vu] _ rfl ?_ ?_ ?_ ⟨vu, rfl, by rw [mkS_length]; exact ho2, rfl⟩
     ·exact Nat.le_trans (by rw [size_setW]; exact Nat.le_refl _) ht2.size
     ·exact (ht2.block g (by rw [size_setW]; exact hg2) (fun hm => hgn hm)).trans (setCell_same (w := setW wr g (j * 3) [.int .i64 m, .int .i64 (m + 1)]) (o := j * 3 + 1 + 1) ((World.cell?_setCell_other _ _ _ _ (by simp)).trans ((World.cell?_setCell_other _ _ _ _ (by simp)).trans hc2))).symm
     ·intro b hb hne hnf
      refine (ht2.block b ?_ hnf).trans (HK.out b hne)
      rw [size_setW]
      exact hfl b hb
    ·refine HT.out.trans ((Tch.setW hgf [.int .i64 m, .int .i64 (m + 1)] wr (j * 3) (Tch.refl _ _)).trans (ht2.sub HE.out))
   case measure => simp [intOf]; omega
  ·obtain rfl : j = xs.length := by omega
   rw [List.drop_length, List.append_nil, List.take_length] at ho
   rw [List.take_length] at HM
   clear hm
   go_wp2
   go_ret
   exact ⟨ret_int HM.out, ho, ht⟩
def cntP (p : Plan) : Nat := cntC p.cartons + p.spots.length * 4
def mkP (k : Int) (p : Plan) : Plan := ⟨mkC k p.cartons, mkS 4 mkSpot (k + (cntC p.cartons : Nat)) p.spots.length⟩
theorem cntP_le (p : Plan) : cntP p ≤ 4 * p.bulk := by unfold cntP Plan.bulk; rw [cntC_le]; omega
set_option maxHeartbeats 400000 in
theorem markPlan_any (v : Value) (p : Plan) (fp : List Nat) (k : Int) (base : Nat) (w : World) (h : OPlan w base v p fp) (hb : p.bulk ≤ 1048576) (h0 : 0 ≤ k) (h1 : k ≤ 1073741824) :
  Calls Tryz.prog 33 #[v, .int .i64 k] w fun e w' => e = .returned (.int .i64 (k + (cntP p : Nat))) ∧ OPlan w' base v (mkP k p) fp ∧ Tch fp w w' := by
 have hlt := h.lt
 obtain ⟨v1, v2, f1, f2, rfl, ho1, ho2, rfl, hn⟩ := h
 have hcb : cntC p.cartons ≤ 2097152 := by rw [cntC_le]; unfold Plan.bulk at hb; omega
 have hsb : p.spots.length ≤ 1048576 := by unfold Plan.bulk at hb; omega
 obtain ⟨n1, hn1⟩ : ∃ x, x = cntC p.cartons := ⟨_, rfl⟩
 rw [← hn1] at hcb
 have hd1 := (List.nodup_append.1 hn).2.2
 obtain ⟨A1, c1, rfl⟩ := OL.form ho1
 obtain ⟨A2, c2, rfl⟩ := OL.form ho2
 have hW : Below w.heap.size w (w.alloc (.cells #[.slice A1 p.cartons.length c1, .slice A2 p.spots.length c2] 46)) := (by repeat' (first | with_reducible exact Below.refl _ _ | with_reducible assumption | with_reducible refine Below.drew ?_ | with_reducible refine Below.alloc ?_ ?_ _ | with_reducible refine Below.setCell ?_ ?_ _ | with_reducible refine below_drewN ?_ _ | (simp; done) | (simp; omega)))
 have hmk := fun W (hw : OCartons W base (.slice A1 p.cartons.length c1) p.cartons f1) => markCartonS_any _ p.cartons f1 k base W hw (by rw [← hn1]; omega) h0 (by omega)
 rw [← hn1] at hmk
 have HN1 := Lib.hid hn1
 have HM := Lib.hid hmk
 have H1 := Lib.hid (OL.below ho1 ECarton_fr hW (fun b hb => (OL.lt ho1 b hb).2))
 have H2 := Lib.hid (OL.below ho2 (eflat_fr _) hW (fun b hb => (OL.lt ho2 b hb).2))
 have hbox := heap_alloc_new w (.cells #[.slice A1 p.cartons.length c1, .slice A2 p.spots.length c2] 46)
 have HBX := Lib.hid hbox
 have HD := Lib.hid hd1
 have HN := Lib.hid hn
 have hlo : ∀ b ∈ f1 ++ f2, b < w.heap.size := fun b hb => (hlt b hb).2
 have HLO := Lib.hid hlo
 clear hn1 hmk ho1 ho2 hbox hd1 hlt hlo hn
 go_enter Tryz.func33, Tryz.ntmps33
 go_wp2_with fail
 refine (HM.out _ H1.out).mono ?_
 rintro e w1 ⟨rfl, ho1, ht1⟩
 have hbx1 := (ht1.block w.heap.size (by simp) (fun hm => by have := HLO.out _ (List.mem_append.2 (.inl hm)); omega)).trans HBX.out
 have hcx1 := fun j => cell_of_row _ _ j _ _ (0, 0) hbx1
 have HO1 := Lib.hid ho1
 have HT1 := Lib.hid ht1
 have ho2 := OL.tch H2.out (eflat_fr _) ht1 (fun b hb hm => HD.out b hm b hb rfl)
 obtain ⟨hrow, hf2⟩ := own_of_OL ho2 (fun _ => rfl)
 have HR := Lib.hid hrow
 have HF2 := Lib.hid hf2
 have HX1 := Lib.hid hbx1
 clear ho1 ht1 ho2 hrow hf2 hbx1
 go_wp2_with fail
 refine (markSpotS_any _ p.spots (k + (n1 : Int)) base _ HR.out (by omega) (by omega) (by omega)).mono ?_
 rintro e w2 ⟨rfl, ho2, ht2⟩
 have ht12 := ht2.sub (fp' := f1 ++ f2) (fun b hb => List.mem_append.2 (.inr (by rw [HF2.out]; exact hb)))
 have HT2 := Lib.hid ht12
 have HO2 := Lib.hid ho2
 have HT2' := Lib.hid ht2
 clear ht12 ho2 ht2
 go_wp2
 go_ret
 refine ⟨ret_int ?_, ⟨_, _, f1, f2, rfl, ?_, ?_, rfl, HN.out⟩, ?_⟩
 ·have := HN1.out; unfold cntP; omega
 ·refine (show OCartons _ _ _ (mkP k p).cartons f1 from ?_)
  rw [show (mkP k p).cartons = mkC k p.cartons from rfl]
  have := OL.tch HO1.out ECarton_fr HT2'.out (fun b hb hm => HD.out b hb b (by rw [HF2.out]; exact hm) rfl)
  exact this
 ·rw [show (mkP k p).spots = mkS 4 mkSpot (k + (cntC p.cartons : Nat)) p.spots.length from rfl, HF2.out, ← HN1.out]
  refine OL_of_own ?_ (fun _ => rfl)
  rw [mkS_length]
  exact HO2.out
 ·exact ((Tch.of hW _).trans (HT1.out.sub (fun b hb => List.mem_append.2 (.inl hb)))).trans HT2.out
end Go.Proofs.YtioijfplbgpjpaaGreat
namespace Go.Proofs.YtioijfplbgpjpaaGreat
set_option linter.unusedVariables false
set_option linter.unusedSimpArgs false
set_option maxRecDepth 100000
open Go.RowKit
section
variable {α : Type} {e K : Nat} {E : World → List Value → α → List Nat → Prop} {w w' : World} {base : Nat} {v : Value} {xs : List α} {fp : List Nat}
theorem lt_of_keep {W W' : World} {b : Nat} (hb : b < W.heap.size) (h : W'.heap[b]? = W.heap[b]?) : b < W'.heap.size := by
 rw [Array.getElem?_eq_getElem hb] at h
 exact (Array.getElem?_eq_some_iff.1 h).1
theorem OL.keepF (h : OL e K E w base v xs fp) (hE : EFr E) (hk : ∀ b ∈ fp, w'.heap[b]? = w.heap[b]?) : OL e K E w' base v xs fp := by
 obtain ⟨cs, ifp, h1, rfl, h3, h4, h5⟩ := h
 refine ⟨cs, ifp, own_block h1 (fun g hg => hk g (by simp [hg])), rfl, h3, fun b hb => ⟨(h4 b hb).1, lt_of_keep (h4 b hb).2 (hk b hb)⟩, h5.keep hE (fun b hb => hk b (by simp [hb]))⟩
end
theorem OPlan.keepF {w w' : World} {base : Nat} {v : Value} {p : Plan} {fp : List Nat} (h : OPlan w base v p fp) (hk : ∀ b ∈ fp, w'.heap[b]? = w.heap[b]?) : OPlan w' base v p fp := by
 obtain ⟨v1, v2, f1, f2, rfl, h1, h2, rfl, hn⟩ := h
 exact ⟨v1, v2, f1, f2, rfl, OL.keepF h1 ECarton_fr (fun b hb => hk b (by simp [hb])), OL.keepF h2 (eflat_fr _) (fun b hb => hk b (by simp [hb])), rfl, hn⟩
abbrev fOP (base : Nat) (v : Value) (p : Plan) (fp : List Nat) : Fact := ⟨fun W => OPlan W base v p fp, fp⟩
theorem fOP_ok (base : Nat) (v : Value) (p : Plan) (fp : List Nat) : (fOP base v p fp).ok := fun _ _ h _ hk => OPlan.keepF h hk
section
variable {w W W' : World} {L : List Fact} {v : Value} {p : Plan} {fp : List Nat} {b : Nat}
theorem Sit.gotPlan (h : Sit w W L) (ho : OPlan W' W.heap.size v p fp) (hb : Below W.heap.size W W') : Sit w W' (fOP W.heap.size v p fp :: L) :=
 h.add hb _ (fOP_ok _ _ _ _) ho ho.lt
theorem Sit.op (h : Sit w W L) (hm : fOP b v p fp ∈ L) (hb : p.bulk ≤ 16777216) : RPlan 16777216 W W.heap.size v p := OPlan.read (h.on _ hm) hb
theorem Sit.planTurn {l1 l2 : List Fact} {q : Plan} (h : Sit w W (l1 ++ fOP b v p fp :: l2)) (ht : Tch fp W W') (ho : OPlan W' b v q fp) : Sit w W' (l1 ++ fOP b v q fp :: l2) :=
 h.tch ht (fOP b v q fp) rfl (fOP_ok _ _ _ _) ho
end
end Go.Proofs.YtioijfplbgpjpaaGreat
