/-
  Sit's master step; facts on lists of flat elements; an order taken apart and put together. No function is named here.
-/
import Derived.Test.YteamlfcfillbjaaGreatSi
import Derived.Test.YteamlfcfillbjaaGreatAi
namespace Go.Proofs.YteamlfcfillbjaaGreat
set_option linter.unusedVariables false
set_option linter.unusedSimpArgs false
set_option maxRecDepth 100000
open Go.RowKit
/-- two facts on blocks that lie apart -/
def Fact.away (q q' : Fact) : Prop := ∀ b ∈ q.fp, b ∈ q'.fp → False
section
variable {w W W' : World} {l l1 l2 : List Fact} {q q' : Fact}
theorem Sit.step (h : Sit w W (l1 ++ l)) {fp : List Nat} (ht : Tch fp W W') (hfp : ∀ b ∈ fp, ∃ q ∈ l1, b ∈ q.fp) (l1' : List Fact) (hs : ∀ p ∈ l1', ∀ b ∈ p.fp, (∃ q ∈ l1, b ∈ q.fp) ∨ (W.heap.size ≤ b ∧ b < W'.heap.size)) (hok : ∀ p ∈ l1', p.ok) (hon : ∀ p ∈ l1', p.on W') (hap : l1'.Pairwise (fun q q' => ∀ b ∈ q.fp, b ∈ q'.fp → False)) : Sit w W' (l1' ++ l) := by
  have ha := List.pairwise_append.1 h.apart
  have hm1 : ∀ {r}, r ∈ l1 → r ∈ l1 ++ l := fun hr => List.mem_append.2 (.inl hr)
  have hm2 : ∀ {r}, r ∈ l → r ∈ l1 ++ l := fun hr => List.mem_append.2 (.inr hr)
  have hnot : ∀ r ∈ l, ∀ b ∈ r.fp, b ∉ fp := fun r hr b hb hm => by
    obtain ⟨q, hq, hb2⟩ := hfp b hm
    exact ha.2.2 q hq r hr b hb2 hb
  refine ⟨h.low.trans (ht.below h.low.size (fun k hk => ?_)), fun r hr => ?_, fun r hr => ?_, fun r hr b hb => ?_, List.pairwise_append.2 ⟨hap, ha.2.1, fun p hp r hr b hb1 hb2 => ?_⟩⟩
  · obtain ⟨q, hq, hb⟩ := hfp k hk
    exact (h.lt q (hm1 hq) k hb).1
  · rcases List.mem_append.1 hr with hr | hr
    · exact hok r hr
    · exact h.ok r (hm2 hr)
  · rcases List.mem_append.1 hr with hr | hr
    · exact hon r hr
    · exact h.ok r (hm2 hr) W W' (h.on r (hm2 hr)) (fun b hb => (h.lt r (hm2 hr) b hb).2) (fun b hb => ht.block b (h.lt r (hm2 hr) b hb).2 (hnot r hr b hb))
  · rcases List.mem_append.1 hr with hr | hr
    · rcases hs r hr b hb with ⟨q, hq, hb2⟩ | hb2
      · exact ⟨(h.lt q (hm1 hq) b hb2).1, Nat.lt_of_lt_of_le (h.lt q (hm1 hq) b hb2).2 ht.size⟩
      · exact ⟨Nat.le_trans h.low.size hb2.1, hb2.2⟩
    · exact ⟨(h.lt r (hm2 hr) b hb).1, Nat.lt_of_lt_of_le (h.lt r (hm2 hr) b hb).2 ht.size⟩
  · rcases hs p hp b hb1 with ⟨q, hq, hb3⟩ | hb3
    · exact ha.2.2 q hq r hr b hb3 hb2
    · have := (h.lt r (hm2 hr) b hb2).2; omega
/-- one fact's blocks grow -/
theorem Sit.grow (h : Sit w W (q :: l)) (ht : Tch q.fp W W') (q' : Fact) (hf : ∀ b ∈ q'.fp, b ∈ q.fp ∨ (W.heap.size ≤ b ∧ b < W'.heap.size)) (ho : q'.ok) (hq : q'.on W') : Sit w W' (q' :: l) :=
  Sit.step (l1 := [q]) h ht (fun b hb => ⟨q, by simp, hb⟩) [q'] (fun p hp b hb => by simp at hp; subst hp; exact (hf b hb).imp (fun h => ⟨q, by simp, h⟩) id) (by simpa using ho) (by simpa using hq) (by simp)
/-- the facts in another order -/
theorem Sit.pick (h : Sit w W l) (l' : List Fact) (hp : l.Perm l') : Sit w W l' := h.perm hp
theorem Sit.rot2 (h : Sit w W (q :: q' :: l)) : Sit w W (q' :: q :: l) := h.perm (List.Perm.swap _ _ _)
theorem Sit.rot3 {q'' : Fact} (h : Sit w W (q :: q' :: q'' :: l)) : Sit w W (q'' :: q :: q' :: l) := h.perm ((List.Perm.cons q (List.Perm.swap _ _ _)).trans (List.Perm.swap _ _ _))
theorem Sit.rot4 {q2 q3 : Fact} (h : Sit w W (q :: q' :: q2 :: q3 :: l)) : Sit w W (q3 :: q :: q' :: q2 :: l) := h.perm ((List.Perm.cons q ((List.Perm.cons q' (List.Perm.swap _ _ _)).trans (List.Perm.swap _ _ _))).trans (List.Perm.swap _ _ _))
theorem Sit.ror4 {q2 q3 : Fact} (h : Sit w W (q :: q' :: q2 :: q3 :: l)) : Sit w W (q' :: q2 :: q3 :: q :: l) := h.rot4.rot4.rot4
theorem Sit.ror3 {q2 : Fact} (h : Sit w W (q :: q' :: q2 :: l)) : Sit w W (q' :: q2 :: q :: l) := h.rot3.rot3
end
/-- a list of flat elements of the walk's own -/
abbrev fOF {α : Type} (f : α → List Value) (e K base : Nat) (v : Value) (xs : List α) (fp : List Nat) : Fact := ⟨fun W => OF f e K W base v xs fp, fp⟩
theorem fOF_ok {α : Type} (f : α → List Value) (e K base : Nat) (v : Value) (xs : List α) (fp : List Nat) : (fOF f e K base v xs fp).ok := fun _ _ h _ hk => h.keep hk
/-- what an append to a list of flat elements leaves -/
def AppOF {α : Type} (f : α → List Value) (e K : Nat) (w : World) (base : Nat) (xs : List α) (fp : List Nat) (v' : Value) (w' : World) : Prop :=
  ∃ fp', OF f e K w' base v' xs fp' ∧ Tch fp w w' ∧ ∀ b ∈ fp', b ∈ fp ∨ (w.heap.size ≤ b ∧ b < w'.heap.size)
section
variable {α : Type} {f : α → List Value} {e K base : Nat} {w W W' : World} {l : List Fact} {v v' : Value} {xs xs' : List α} {fp : List Nat}
theorem Sit.app (h : Sit w W (fOF f e K base v xs fp :: l)) (ha : AppOF f e K W base xs' fp v' W') : ∃ fp', Sit w W' (fOF f e K base v' xs' fp' :: l) := by
  obtain ⟨fp', ho, ht, hf⟩ := ha
  exact ⟨fp', h.grow ht (fOF f e K base v' xs' fp') hf (fOF_ok _ _ _ _ _ _ _) ho⟩
theorem Sit.list (h : Sit w W l) (hm : fOF f e K base v xs fp ∈ l) : OF f e K W base v xs fp := h.on _ hm
theorem Sit.addOF (h : Sit w W l) (hb : Below W.heap.size W W') (ho : OF f e K W' base v xs fp) (hB : W.heap.size ≤ base) : Sit w W' (fOF f e K base v xs fp :: l) :=
  h.add hb _ (fOF_ok _ _ _ _ _ _ _) ho (fun b hb' => ⟨Nat.le_trans hB (ho.lt b hb').1, (ho.lt b hb').2⟩)
theorem Sit.addNil (h : Sit w W l) (base : Nat) : Sit w W (fOF f e K base (.slice none 0 0) [] [] :: l) :=
  h.add (Below.refl _ _) _ (fOF_ok _ _ _ _ _ _ _) ⟨World.ownsRow_nil _ _ _ _, rfl⟩ (by simp)
theorem OF.app_of_row {n : Nat} (h : W'.ownsRow base e K v' n (xs'.flatMap f)) (hn : n = xs'.length) (hg : W.grownBy W' v.ownBlock) (hv : v'.ownBlock = v.ownBlock ∨ v'.ownBlock = some W.heap.size) (hfp : fp = v.ownBlock.toList) : AppOF f e K W base xs' fp v' W' := by
  subst hn
  subst hfp
  have ho := OF.mk h
  refine ⟨_, ho, ⟨hg.os, hg.tape, hg.output, hg.size, fun k hk hn => hg.block k hk (fun e => hn (mem_ownBlock e.symm))⟩, fun b hb => ?_⟩
  rcases hv with hv | hv
  · exact .inl (by rw [← hv]; exact hb)
  · refine .inr ⟨?_, (ho.lt b hb).2⟩
    rw [hv] at hb
    simp at hb
    omega
end
theorem RL_one1 {α : Type} {f : α → List Value} {w : World} {g K B : Nat} {e : TypeId} {news : Array Value} {y : α} (h : w.heap[g]? = some (.cells news e (0, 0))) (hn : news = (f y).toArray) (hk : (f y).length = K) (hB : g < B) : RL 1 K (flat f) w B (.slice (some ⟨g, 0, none⟩) 1 1) [y] := by
  subst hn
  refine ⟨_, 1, rfl, ⟨Nat.le_refl _, Nat.le_refl _⟩, fun _ => ⟨g, 0, rfl, hB, fun i x hx => ?_⟩⟩
  have hi : i = 0 := by rcases i with _ | i <;> simp at hx; rfl
  subst hi
  simp at hx
  subst hx
  refine ⟨f y, hk, rfl, fun j u hu => ?_⟩
  rw [cell_of_row _ _ _ _ _ (0, 0) h]
  simpa using hu
/-- an order's lists, taken apart -/
theorem Sit.apartReq {w W : World} {l : List Fact} {b : Nat} {vp vt vi : Value} {r : Request} {fp : List Nat} (h : Sit w W (fReq b (.agg (r.row vp vt vi)) r fp :: l)) : ∃ f1 f2 f3, fp = f1 ++ (f2 ++ f3) ∧ Sit w W (fOF Pair.cells 81 2 b vp r.pairs f1 :: fOF GType.cells 67 7 b vt r.types f2 :: fOF Item.cells 41 7 b vi r.items f3 :: l) := by
  obtain ⟨vp', vt', vi', f1, f2, f3, hv, h1, h2, h3, rfl, hn⟩ := h.own (.head _)
  have hv : r.row vp vt vi = r.row vp' vt' vi' := by injection hv
  have e1 : vp = vp' := congrArg (fun a : Array Value => a[6]!) hv
  have e2 : vt = vt' := congrArg (fun a : Array Value => a[7]!) hv
  have e3 : vi = vi' := congrArg (fun a : Array Value => a[9]!) hv
  subst e1 e2 e3
  rw [List.nodup_append, List.nodup_append] at hn
  refine ⟨f1, f2, f3, rfl, Sit.step (l1 := [fReq b (.agg (r.row vp vt vi)) r (f1 ++ (f2 ++ f3))]) (fp := []) h (Tch.refl _ _) (by simp) [_, _, _] ?_ ?_ ?_ ?_⟩
  · intro p hp b hb
    refine .inl ⟨_, .head _, ?_⟩
    simp only [List.mem_cons, List.not_mem_nil, or_false] at hp
    rcases hp with rfl | rfl | rfl <;> simp at hb ⊢ <;> simp [hb]
  · intro p hp
    simp only [List.mem_cons, List.not_mem_nil, or_false] at hp
    rcases hp with rfl | rfl | rfl <;> exact fOF_ok _ _ _ _ _ _ _
  · intro p hp
    simp only [List.mem_cons, List.not_mem_nil, or_false] at hp
    rcases hp with rfl | rfl | rfl
    · exact h1
    · exact h2
    · exact h3
  · simp only [List.pairwise_cons, List.mem_cons, List.not_mem_nil, or_false, forall_eq_or_imp, forall_eq, List.Pairwise.nil, and_true, false_implies, implies_true]
    exact ⟨⟨fun b hb hb' => hn.2.2 b hb b (List.mem_append_left _ hb') rfl, fun b hb hb' => hn.2.2 b hb b (List.mem_append_right _ hb') rfl⟩, fun b hb hb' => hn.2.1.2.2 b hb b hb' rfl⟩
/-- an order's lists, put together -/
theorem Sit.joinReq {w W : World} {l : List Fact} {b : Nat} {vp vt vi : Value} {r : Request} {f1 f2 f3 : List Nat} (h : Sit w W (fOF Pair.cells 81 2 b vp r.pairs f1 :: fOF GType.cells 67 7 b vt r.types f2 :: fOF Item.cells 41 7 b vi r.items f3 :: l)) : Sit w W (fReq b (.agg (r.row vp vt vi)) r (f1 ++ (f2 ++ f3)) :: l) := by
  have h1 := h.list (.head _)
  have h2 := h.list (.tail _ (.head _))
  have h3 := h.list (.tail _ (.tail _ (.head _)))
  have ha := h.apart
  simp only [List.pairwise_cons, List.mem_cons, forall_eq_or_imp] at ha
  refine Sit.step (l1 := [_, _, _]) (fp := []) h (Tch.refl _ _) (by simp) [fReq b (.agg (r.row vp vt vi)) r (f1 ++ (f2 ++ f3))] ?_ ?_ ?_ (by simp)
  · intro p hp b hb
    simp only [List.mem_cons, List.not_mem_nil, or_false] at hp
    subst hp
    simp only [List.mem_append] at hb
    rcases hb with hb | hb | hb
    · exact .inl ⟨_, .head _, hb⟩
    · exact .inl ⟨_, .tail _ (.head _), hb⟩
    · exact .inl ⟨_, .tail _ (.tail _ (.head _)), hb⟩
  · intro p hp
    simp only [List.mem_cons, List.not_mem_nil, or_false] at hp
    subst hp
    exact fReq_ok _ _ _ _
  · intro p hp
    simp only [List.mem_cons, List.not_mem_nil, or_false] at hp
    subst hp
    refine ⟨_, _, _, _, _, _, rfl, h1, h2, h3, rfl, ?_⟩
    rw [List.nodup_append, List.nodup_append]
    refine ⟨h1.nodup, ⟨h2.nodup, h3.nodup, fun x hx y hy e => ha.2.1.1 x hx (e ▸ hy)⟩, fun x hx y hy e => ?_⟩
    rcases List.mem_append.1 hy with hy | hy
    · exact ha.1.1 x hx (e ▸ hy)
    · exact ha.1.2.1 x hx (e ▸ hy)
theorem setL_app1 : ∀ (us l1 l2 : List Value) (j : Nat), setL (l1 ++ l2) (l1.length + j) us = l1 ++ setL l2 j us
  | [], _, _, _ => rfl
  | u :: us, l1, l2, j => by
    unfold setL
    rw [List.set_append_right _ _ (Nat.le_add_right _ _), Nat.add_sub_cancel_left, Nat.add_assoc]
    exact setL_app1 us l1 _ (j + 1)
theorem setL_app2 : ∀ (us l1 l2 : List Value) (j : Nat), j + us.length ≤ l1.length → setL (l1 ++ l2) j us = setL l1 j us ++ l2
  | [], _, _, _, _ => rfl
  | u :: us, l1, l2, j, h => by
    simp only [List.length_cons] at h
    unfold setL
    rw [List.set_append_left _ _ (by omega)]
    exact setL_app2 us _ l2 (j + 1) (by simp; omega)
/-- cells of one element are written -/
theorem flat_put {α : Type} {f : α → List Value} {K : Nat} (hK : ∀ x, (f x).length = K) {xs : List α} {k j : Nat} {x y : α} {us : List Value} (hx : xs[k]? = some x) (hl : j + us.length ≤ K) (hy : setL (f x) j us = f y) : setL (xs.flatMap f) (k * K + j) us = (xs.set k y).flatMap f := by
  obtain ⟨hk, rfl⟩ := List.getElem?_eq_some_iff.1 hx
  have hd : xs = xs.take k ++ xs[k] :: xs.drop (k + 1) := by rw [← List.drop_eq_getElem_cons hk, List.take_append_drop]
  have hlen : ((xs.take k).flatMap f).length = k * K := by rw [flatMap_len hK, List.length_take, Nat.min_eq_left (Nat.le_of_lt hk)]
  rw [List.set_eq_take_append_cons_drop, if_pos hk]
  conv => lhs; rw [hd]
  rw [List.flatMap_append, List.flatMap_cons, ← hlen, setL_app1, setL_app2 _ _ _ _ (by rw [hK]; exact hl), hy, List.flatMap_append, List.flatMap_cons]
section
variable {α : Type} {f : α → List Value} {e K base : Nat} {w W W' : World} {l : List Fact} {v : Value} {xs : List α} {fp : List Nat} {g n c k j : Nat} {x y : α} {us : List Value}
theorem OF.block (h : OF f e K w base v xs fp) (hn : 0 < xs.length) : ∃ g c, v = .slice (some ⟨g, 0, none⟩) xs.length c ∧ fp = [g] := by
  obtain ⟨h, rfl⟩ := h
  rcases h.2 with ⟨hv, h0⟩ | ⟨g, cap, cur, hv, _⟩
  · omega
  · exact ⟨g, cap, hv, by rw [hv]; rfl⟩
theorem OF.put (h : OF f e K w base (.slice (some ⟨g, 0, none⟩) n c) xs fp) (hK : ∀ x, (f x).length = K) (hx : xs[k]? = some x) (hl : j + us.length ≤ K) (hy : setL (f x) j us = f y) : OF f e K (setW w g (k * K + j) us) base (.slice (some ⟨g, 0, none⟩) n c) (xs.set k y) fp ∧ g ∈ fp := by
  obtain ⟨h, rfl⟩ := h
  have hn : n = xs.length := by
    rcases h.2 with ⟨hv, _⟩ | ⟨g', cap, cur, hv, _⟩
    · cases hv
    · injection hv
  subst hn
  refine ⟨⟨?_, rfl⟩, by simp [Value.ownBlock]⟩
  have h2 := storedL us _ w (k * K + j) h
  rw [flat_put hK hx hl hy] at h2
  rw [List.length_set]
  exact h2
theorem Sit.put (h : Sit w W (fOF f e K base (.slice (some ⟨g, 0, none⟩) n c) xs fp :: l)) (hK : ∀ x, (f x).length = K) (hx : xs[k]? = some x) (hl : j + us.length ≤ K) (hy : setL (f x) j us = f y) : Sit w (setW W g (k * K + j) us) (fOF f e K base (.slice (some ⟨g, 0, none⟩) n c) (xs.set k y) fp :: l) := by
  have h2 := (h.list (.head _)).put hK hx hl hy
  exact h.grow (Tch.setW h2.2 us W _ (Tch.refl _ _)) (fOF f e K base (.slice (some ⟨g, 0, none⟩) n c) (xs.set k y) fp) (fun b hb => .inl hb) (fOF_ok _ _ _ _ _ _ _) h2.1
end
/-- the first k elements are changed -/
def mapTo {α : Type} (F : α → α) (k : Nat) (xs : List α) : List α := (xs.take k).map F ++ xs.drop k
section
variable {α : Type} {F : α → α} {xs : List α} {k : Nat} {x : α}
@[simp] theorem mapTo_len : (mapTo F k xs).length = xs.length := by unfold mapTo; simp; omega
theorem mapTo_zero : mapTo F 0 xs = xs := by simp [mapTo]
theorem mapTo_all : mapTo F xs.length xs = xs.map F := by simp [mapTo]
theorem mapTo_get (hx : xs[k]? = some x) : (mapTo F k xs)[k]? = some x := by
  have hk := (List.getElem?_eq_some_iff.1 hx).1
  unfold mapTo
  rw [List.getElem?_append_right (by simp; omega)]
  simpa [Nat.min_eq_left (Nat.le_of_lt hk)] using hx
theorem mapTo_set (hx : xs[k]? = some x) : (mapTo F k xs).set k (F x) = mapTo F (k + 1) xs := by
  obtain ⟨hk, rfl⟩ := List.getElem?_eq_some_iff.1 hx
  have hl : ((xs.take k).map F).length = k := by simp; omega
  unfold mapTo
  rw [List.set_append_right _ _ (by omega), hl, Nat.sub_self, List.drop_eq_getElem_cons hk, List.set_cons_zero, List.take_add_one, hx, List.map_append, List.append_assoc]
  rfl
end
end Go.Proofs.YteamlfcfillbjaaGreat
