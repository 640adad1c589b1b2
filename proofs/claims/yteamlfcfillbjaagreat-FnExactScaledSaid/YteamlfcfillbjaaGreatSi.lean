/-
  What a law's walk carries: facts on blocks of the walk's own that lie apart, each with its blocks. No function is named here.
-/
import Derived.Test.YteamlfcfillbjaaGreatRr
namespace Go.Proofs.YteamlfcfillbjaaGreat
set_option linter.unusedVariables false
set_option linter.unusedSimpArgs false
set_option maxRecDepth 100000
open Go.RowKit
/-- a fact that hangs on the blocks fp alone -/
structure Fact where
  on : World → Prop
  fp : List Nat
def Fact.ok (q : Fact) : Prop := ∀ W W', q.on W → (∀ b ∈ q.fp, b < W.heap.size) → (∀ b ∈ q.fp, W'.heap[b]? = W.heap[b]?) → q.on W'
/-- W is behind w; each fact of l holds, on blocks of its own -/
structure Sit (w W : World) (l : List Fact) : Prop where
  low : Below w.heap.size w W
  ok : ∀ q ∈ l, q.ok
  on : ∀ q ∈ l, q.on W
  lt : ∀ q ∈ l, ∀ b ∈ q.fp, w.heap.size ≤ b ∧ b < W.heap.size
  apart : l.Pairwise (fun q q' => ∀ b ∈ q.fp, b ∈ q'.fp → False)
section
variable {w W W' : World} {l l1 l2 : List Fact} {q q' : Fact}
theorem Sit.here (w : World) : Sit w w [] := ⟨Below.refl _ _, by simp, by simp, by simp, by simp⟩
theorem Sit.next (h : Sit w W l) (hb : Below W.heap.size W W') : Sit w W' l :=
  ⟨bstep h.low hb, h.ok, fun q hq => h.ok q hq W W' (h.on q hq) (fun b hm => (h.lt q hq b hm).2) (fun b hm => hb.block b (h.lt q hq b hm).2), fun q hq b hm => ⟨(h.lt q hq b hm).1, Nat.lt_of_lt_of_le (h.lt q hq b hm).2 hb.size⟩, h.apart⟩
theorem Sit.add (h : Sit w W l) (hb : Below W.heap.size W W') (q : Fact) (ho : q.ok) (hq : q.on W') (hl : ∀ b ∈ q.fp, W.heap.size ≤ b ∧ b < W'.heap.size) : Sit w W' (q :: l) := by
  have h' := h.next hb
  refine ⟨h'.low, ?_, ?_, ?_, List.pairwise_cons.2 ⟨fun q' hq' b hb1 hb2 => ?_, h'.apart⟩⟩
  · intro r hr
    rcases List.mem_cons.1 hr with rfl | hr
    · exact ho
    · exact h'.ok r hr
  · intro r hr
    rcases List.mem_cons.1 hr with rfl | hr
    · exact hq
    · exact h'.on r hr
  · intro r hr b hm
    rcases List.mem_cons.1 hr with rfl | hr
    · exact ⟨Nat.le_trans h.low.size (hl b hm).1, (hl b hm).2⟩
    · exact h'.lt r hr b hm
  · have := (hl b hb1).1; have := (h.lt q' hq' b hb2).2; omega
theorem Sit.drop (h : Sit w W (q :: l)) : Sit w W l :=
  ⟨h.low, fun r hr => h.ok r (.tail _ hr), fun r hr => h.on r (.tail _ hr), fun r hr => h.lt r (.tail _ hr), (List.pairwise_cons.1 h.apart).2⟩
theorem Sit.perm (h : Sit w W l) (hp : l.Perm l2) : Sit w W l2 :=
  ⟨h.low, fun r hr => h.ok r (hp.mem_iff.2 hr), fun r hr => h.on r (hp.mem_iff.2 hr), fun r hr => h.lt r (hp.mem_iff.2 hr), hp.pairwise h.apart (fun h1 b hb1 hb2 => h1 b hb2 hb1)⟩
theorem Sit.tch (h : Sit w W (l1 ++ q :: l2)) (ht : Tch q.fp W W') (q' : Fact) (hf : q'.fp = q.fp) (ho : q'.ok) (hq : q'.on W') : Sit w W' (l1 ++ q' :: l2) := by
  have hap := h.apart
  rw [List.pairwise_append, List.pairwise_cons] at hap
  have hm : ∀ r, r ∈ l1 ++ q' :: l2 → r = q' ∨ (r ∈ l1 ++ q :: l2 ∧ ∀ b ∈ r.fp, b ∈ q.fp → False) := by
    intro r hr
    rcases List.mem_append.1 hr with hr | hr
    · exact .inr ⟨List.mem_append.2 (.inl hr), hap.2.2 r hr q (.head _)⟩
    · rcases List.mem_cons.1 hr with rfl | hr
      · exact .inl rfl
      · exact .inr ⟨List.mem_append.2 (.inr (.tail _ hr)), fun b h1 h2 => hap.2.1.1 r hr b h2 h1⟩
  have hq0 : q ∈ l1 ++ q :: l2 := List.mem_append.2 (.inr (.head _))
  refine ⟨h.low.trans (ht.below h.low.size (fun k hk => (h.lt q hq0 k hk).1)), fun r hr => ?_, fun r hr => ?_, fun r hr b hb => ?_, ?_⟩
  · rcases hm r hr with rfl | ⟨hr, _⟩
    · exact ho
    · exact h.ok r hr
  · rcases hm r hr with rfl | ⟨hr, hd⟩
    · exact hq
    · exact h.ok r hr W W' (h.on r hr) (fun b hb => (h.lt r hr b hb).2) (fun b hb => ht.block b (h.lt r hr b hb).2 (hd b hb))
  · rcases hm r hr with rfl | ⟨hr, _⟩
    · rw [hf] at hb
      exact ⟨(h.lt q hq0 b hb).1, Nat.lt_of_lt_of_le (h.lt q hq0 b hb).2 ht.size⟩
    · exact ⟨(h.lt r hr b hb).1, Nat.lt_of_lt_of_le (h.lt r hr b hb).2 ht.size⟩
  · rw [List.pairwise_append, List.pairwise_cons]
    refine ⟨hap.1, ⟨fun r hr b hb => ?_, hap.2.1.2⟩, fun r hr s hs => ?_⟩
    · rw [hf] at hb
      exact hap.2.1.1 r hr b hb
    · rcases List.mem_cons.1 hs with rfl | hs
      · rw [hf]; exact hap.2.2 r hr q (.head _)
      · exact hap.2.2 r hr s (.tail _ hs)
end
/-- a box -/
abbrev fBox (g : Nat) (cs : Array Value) (t : TypeId) : Fact := ⟨fun W => W.heap[g]? = some (.cells cs t (0, 0)), [g]⟩
theorem fBox_ok (g : Nat) (cs : Array Value) (t : TypeId) : (fBox g cs t).ok := fun _ _ h _ hk => (hk g (by simp)).trans h
/-- an order of the walk's own -/
abbrev fReq (base : Nat) (v : Value) (r : Request) (fp : List Nat) : Fact := ⟨fun W => OReq W base v r fp, fp⟩
theorem fReq_ok (base : Nat) (v : Value) (r : Request) (fp : List Nat) : (fReq base v r fp).ok := fun _ _ h _ hk => h.keep hk
section
variable {w W W' : World} {l l1 l2 : List Fact} {g : Nat} {cs : Array Value} {t : TypeId} {v : Value} {r : Request} {fp : List Nat} {b : Nat}
theorem Sit.box (h : Sit w W l) (hm : fBox g cs t ∈ l) (j : Nat) : W.cell? ⟨g, j, none⟩ = cs[j]? := cell_of_row _ _ j _ _ (0, 0) (h.on _ hm)
theorem Sit.boxlt (h : Sit w W l) (hm : fBox g cs t ∈ l) : g < W.heap.size := lt_of_block (h.on _ hm)
theorem Sit.free (h : Sit w W l) (hm : fBox g cs t ∈ l) (j : Nat) : W.frozen? ⟨g, j, none⟩ = false := frozen_of_row _ _ j _ _ (h.on _ hm)
theorem Sit.alloc (h : Sit w W l) (cs : Array Value) (t : TypeId) : Sit w (W.alloc (.cells cs t)) (fBox W.heap.size cs t :: l) :=
  h.add ((Below.refl _ _).alloc (Nat.le_refl _) _) _ (fBox_ok _ _ _) (heap_alloc_new _ _) (by simp)
theorem Sit.drew (h : Sit w W l) : Sit w W.drew l := h.next (Below.refl _ _).drew
theorem Sit.req (h : Sit w W l) (hb : Below W.heap.size W W') (ho : OReq W' W.heap.size v r fp) : Sit w W' (fReq W.heap.size v r fp :: l) :=
  h.add hb _ (fReq_ok _ _ _ _) ho ho.lt
theorem Sit.mark (h : Sit w W (l1 ++ fReq b v r fp :: l2)) (ht : Tch fp W W') {r' : Request} (ho : OReq W' b v r' fp) : Sit w W' (l1 ++ fReq b v r' fp :: l2) :=
  h.tch ht (fReq b v r' fp) rfl (fReq_ok _ _ _ _) ho
theorem Sit.own (h : Sit w W l) (hm : fReq b v r fp ∈ l) : OReq W b v r fp := h.on _ hm
/-- a box of the walk's own is written anew -/
theorem Sit.again (h : Sit w W (fBox g cs t :: l)) {us : List Value} {cs' : Array Value} (hs : (setW W g 0 us).heap[g]? = some (.cells cs' t (0, 0))) : Sit w (setW W g 0 us) (fBox g cs' t :: l) :=
  Sit.tch (l1 := []) h (Tch.setW (by simp) us W 0 (Tch.refl _ _)) _ rfl (fBox_ok _ _ _) hs
end
/-- a box was made just ahead of a call: its block -/
theorem calls_new {P : Program} {f : FuncId} {args : Array Value} {W : World} {cs : Array Value} {t : TypeId} {Q : Ending → World → Prop} (k : (W.alloc (.cells cs t)).heap[W.heap.size]? = some (.cells cs t (0, 0)) → Calls P f args (W.alloc (.cells cs t)) Q) : Calls P f args (W.alloc (.cells cs t)) Q := k (heap_alloc_new _ _)
theorem calls_newd {P : Program} {f : FuncId} {args : Array Value} {W : World} {cs : Array Value} {t : TypeId} {Q : Ending → World → Prop} (k : (W.alloc (.cells cs t)).drew.heap[W.heap.size]? = some (.cells cs t (0, 0)) → Calls P f args (W.alloc (.cells cs t)).drew Q) : Calls P f args (W.alloc (.cells cs t)).drew Q := k (heap_alloc_new _ _)
section
variable {w W W' : World} {l : List Fact} {q q2 : Fact} {g B : Nat} {t : TypeId} {v : Value} {r : Request} {fp : List Nat}
theorem Sit.add2 (h : Sit w W l) (hb : Below W.heap.size W W') (ho : q.ok) (hq : q.on W') (hl : ∀ b ∈ q.fp, W.heap.size ≤ b ∧ b < W'.heap.size) (ho2 : q2.ok) (hq2 : q2.on W') (hl2 : ∀ b ∈ q2.fp, W.heap.size ≤ b ∧ b < W'.heap.size) (hd : ∀ b ∈ q.fp, b ∈ q2.fp → False) : Sit w W' (q :: q2 :: l) := by
  have h2 := h.add hb q2 ho2 hq2 hl2
  refine ⟨h2.low, ?_, ?_, ?_, List.pairwise_cons.2 ⟨fun q' hq' b hb1 hb2 => ?_, h2.apart⟩⟩
  · intro r hr
    rcases List.mem_cons.1 hr with rfl | hr
    · exact ho
    · exact h2.ok r hr
  · intro r hr
    rcases List.mem_cons.1 hr with rfl | hr
    · exact hq
    · exact h2.on r hr
  · intro r hr b hm
    rcases List.mem_cons.1 hr with rfl | hr
    · exact ⟨Nat.le_trans h.low.size (hl b hm).1, (hl b hm).2⟩
    · exact h2.lt r hr b hm
  · rcases List.mem_cons.1 hq' with rfl | hq'
    · exact hd b hb1 hb2
    · have := (hl b hb1).1; have := (h.lt q' hq' b hb2).2; omega
/-- an order, then a box made behind it -/
theorem Sit.fresh (h : Sit w W l) (hb : Below W.heap.size W W') (ho : OReq W' B v r fp) (hB : W.heap.size ≤ B) (cs : Array Value) (t : TypeId) : Sit w (W'.alloc (.cells cs t)) (fBox W'.heap.size cs t :: fReq W.heap.size v r fp :: l) :=
  (h.req hb (ho.base hB)).alloc cs t
theorem reqbox_set {c0 c1 c2 c3 c4 c5 c6 c7 c8 c9 v0 v1 v2 v3 v4 v5 v6 v7 v8 v9 : Value} (hg : W.heap[g]? = some (.cells #[c0, c1, c2, c3, c4, c5, c6, c7, c8, c9] t (0, 0))) : (setW W g 0 [v0, v1, v2, v3, v4, v5, v6, v7, v8, v9]).heap[g]? = some (.cells #[v0, v1, v2, v3, v4, v5, v6, v7, v8, v9] t (0, 0)) :=
  by
  have h := ((((((((((AtB.here (B := 0) hg).store 0 v0).store 1 v1).store 2 v2).store 3 v3).store 4 v4).store 5 v5).store 6 v6).store 7 v7).store 8 v8).store 9 v9
  simp only [List.setIfInBounds_toArray, List.set_cons_zero, List.set_cons_succ] at h
  exact h.blk
/-- an order whose box was made ahead of it -/
theorem Sit.early {c0 c1 c2 c3 c4 c5 c6 c7 c8 c9 v0 v1 v2 v3 v4 v5 v6 v7 v8 v9 : Value} (h : Sit w W l) (hb : Below W.heap.size W W') (ho : OReq W' B v r fp) (hB : W.heap.size ≤ B) (hg : W'.heap[g]? = some (.cells #[c0, c1, c2, c3, c4, c5, c6, c7, c8, c9] t (0, 0))) (hgW : W.heap.size ≤ g) (hgB : g < B) : Sit w ((((((((((W'.setCell ⟨g, 0, none⟩ v0).setCell ⟨g, 1, none⟩ v1).setCell ⟨g, 2, none⟩ v2).setCell ⟨g, 3, none⟩ v3).setCell ⟨g, 4, none⟩ v4).setCell ⟨g, 5, none⟩ v5).setCell ⟨g, 6, none⟩ v6).setCell ⟨g, 7, none⟩ v7).setCell ⟨g, 8, none⟩ v8).setCell ⟨g, 9, none⟩ v9) (fBox g #[v0, v1, v2, v3, v4, v5, v6, v7, v8, v9] t :: fReq W.heap.size v r fp :: l) :=
  by
  have h2 := Sit.again (h.add2 (q := fBox g #[c0, c1, c2, c3, c4, c5, c6, c7, c8, c9] t) hb (fBox_ok _ _ _) hg (by intro b hm; simp at hm; subst hm; exact ⟨hgW, lt_of_block hg⟩) (fReq_ok _ _ _ _) (ho.base hB) (fun b hm => ⟨Nat.le_trans hB (ho.lt b hm).1, (ho.lt b hm).2⟩) (by intro b h1 h2; simp at h1; subst h1; have := (ho.lt _ h2).1; omega)) (reqbox_set (v0 := v0) (v1 := v1) (v2 := v2) (v3 := v3) (v4 := v4) (v5 := v5) (v6 := v6) (v7 := v7) (v8 := v8) (v9 := v9) hg)
  simp only [setW, Nat.reduceAdd, Nat.zero_add] at h2
  exact h2
end
section
variable {w W W' : World} {l l1 l2 : List Fact} {g b j : Nat} {cs : Array Value} {t : TypeId} {u v v' : Value} {r r' : Request} {fp : List Nat}
/-- one cell of a box is written anew -/
theorem Sit.store (h : Sit w W (fBox g cs t :: l)) (j : Nat) (u : Value) : Sit w (W.setCell ⟨g, j, none⟩ u) (fBox g (cs.setIfInBounds j u) t :: l) :=
  Sit.tch (l1 := []) h (Tch.setW (us := [u]) (o := j) (by simp) W (Tch.refl _ _)) _ rfl (fBox_ok _ _ _) (heap_setCell_same W g j _ _ _ (h.on _ (.head _)))
/-- an order of the walk's own is changed in place; its head too -/
theorem Sit.turn (h : Sit w W (l1 ++ fReq b v r fp :: l2)) (ht : Tch fp W W') (ho : OReq W' b v' r' fp) : Sit w W' (l1 ++ fReq b v' r' fp :: l2) :=
  h.tch ht (fReq b v' r' fp) rfl (fReq_ok _ _ _ _) ho
end
end Go.Proofs.YteamlfcfillbjaaGreat
