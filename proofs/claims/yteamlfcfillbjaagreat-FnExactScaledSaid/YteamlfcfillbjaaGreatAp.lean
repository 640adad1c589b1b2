/-
  append of one row of cells, just laid, onto a row of the call's own; several rows of the call's own, apart. No program is named here.
-/
import Derived.Test.YteamlfcfillbjaaGreatOw
import Derived.Maps.AppendAt
import Derived.Deep.AppendLies
import Derived.RegionTactic
import Derived.OwnWalk
namespace Go.Proofs.YteamlfcfillbjaaGreat
set_option linter.unusedVariables false
set_option linter.unusedSimpArgs false
set_option maxRecDepth 100000
open Go.RowKit
section
variable {P : Program}
theorem wp_app1 {o : Oper} {a : Act} {K : Act → World → Prop} {Q : Exit → Act → World → Prop} (w0 : World) (s x : Operand) (t : TypeId)
    (ho : o.op = .call { callee := .builtin .append, args := #[s, x], argTypes := #[t, t] })
    (base : Nat) (e : TypeId) (i : TypeInfo) (z : Value) (size bytes : Nat) (ht : P.underlying t = some (.slice e)) (hi : P.info? e = some i) (hz : i.zero = some z)
    (hsize : i.size = size) (hby : i.bytes = bytes) (hzs : z.cells.size = size) (hsz : 0 < size)
    (v : Value) (n : Nat) (xs : List Value) (hs : a.eval s = v) (hown : w0.ownsRow base e size v n xs)
    (news : Array Value) (N : Nat) (hx : a.eval x = .slice (some ⟨N, 0, none⟩) 1 1) (hN : N = w0.heap.size) (hl : news.size = size) (h1 : ∀ u ∈ news.toList, u.oneCell' = true)
    (h63 : n + 1 ≤ maxLen) (hbytes : (n + 1) * bytes ≤ 140737488355328) (hbase : base ≤ w0.heap.size)
    (h : ∀ v' w', w'.ownsRow base e size v' (n + 1) (xs ++ news.toList) → w0.grownBy w' v.ownBlock → (v'.ownBlock = v.ownBlock ∨ ∃ g, v'.ownBlock = some g ∧ w0.heap.size ≤ g) → K (a.put o.dst v') w') : o.wp P a (w0.alloc (.cells news e)) K Q := by
  subst hN
  have hnews : ∀ j u, news.toList[j]? = some u → (w0.alloc (.cells news e)).cell? ((⟨w0.heap.size, 0, none⟩ : Addr).add j) = some u := by
    intro j u hu
    have hA : (⟨w0.heap.size, 0, none⟩ : Addr).add j = ⟨w0.heap.size, j, none⟩ := by
      unfold Addr.add; split
      · rename_i h0; rw [h0]
      · simp
    rw [hA, cell_of_row _ _ _ _ _ (0, 0) (heap_alloc_new w0 _)]
    simpa using hu
  obtain ⟨v', w', hrun, h2, h3, _, h5⟩ := run_append_own_at (P := P) (w0.alloc (.cells news e)) base t o.type e i z size bytes ht hi hz hsize hby hzs hsz v n xs (hown.alloc _) ⟨w0.heap.size, 0, none⟩ 1 1 news.toList (by simpa using hl) hnews h1 h63 hbytes (by simp; omega)
  unfold Oper.wp execOp
  simp only [ho, resolve, invoke, builtin, Sem.run_bind, Sem.run_pure, Result.andThen_ok, List.map_toArray, List.map_cons, List.map_nil, hs, hx, hrun]
  refine h v' w' h2 ⟨h3.os, h3.tape, h3.output, Nat.le_trans (by simp) h3.size, fun k hk hne => (h3.block k (by simp; omega) hne).trans (Below.heap_alloc _ _ _ hk)⟩ ?_
  rcases h5 with h5 | h5
  · exact .inl h5
  · exact .inr ⟨_, h5, by simp⟩

/-- a guard: the operation at hand is this append (it fails at once elsewhere) -/
theorem at_app {ops : Array Oper} {rest : List Oper} {o : Oper} {a : Act} {Q : Exit → Act → World → Prop} {w : World} (s x : Operand) (t : TypeId)
    (_ : o.op = .call { callee := .builtin .append, args := #[s, x], argTypes := #[t, t] }) (h : wpList P ops Q (o :: rest) a w) : wpList P ops Q (o :: rest) a w := h
theorem wpList_app1 {ops : Array Oper} {rest : List Oper} {o : Oper} {a : Act} {Q : Exit → Act → World → Prop} (w0 : World) (hgd : o.guard = none) (s x : Operand) (t : TypeId)
    (ho : o.op = .call { callee := .builtin .append, args := #[s, x], argTypes := #[t, t] })
    (base : Nat) (e : TypeId) (i : TypeInfo) (z : Value) (size bytes : Nat) (ht : P.underlying t = some (.slice e)) (hi : P.info? e = some i) (hz : i.zero = some z)
    (hsize : i.size = size) (hby : i.bytes = bytes) (hzs : z.cells.size = size) (hsz : 0 < size)
    (v : Value) (n : Nat) (xs : List Value) (hs : a.eval s = v) (hown : w0.ownsRow base e size v n xs)
    (news : Array Value) (N : Nat) (hx : a.eval x = .slice (some ⟨N, 0, none⟩) 1 1) (hN : N = w0.heap.size) (hl : news.size = size) (h1 : ∀ u ∈ news.toList, u.oneCell' = true)
    (h63 : n + 1 ≤ maxLen) (hbytes : (n + 1) * bytes ≤ 140737488355328) (hbase : base ≤ w0.heap.size)
    (h : ∀ v' w', w'.ownsRow base e size v' (n + 1) (xs ++ news.toList) → w0.grownBy w' v.ownBlock → (v'.ownBlock = v.ownBlock ∨ ∃ g, v'.ownBlock = some g ∧ w0.heap.size ≤ g) → wpList P ops Q rest (a.put o.dst v') w') :
    wpList P ops Q (o :: rest) a (w0.alloc (.cells news e)) :=
  wpList_plain hgd fun _ hK => wp_app1 w0 s x t ho base e i z size bytes ht hi hz hsize hby hzs hsz v n xs hs hown news N hx hN hl h1 h63 hbytes hbase fun v' w' h2 h3 h4 => hK _ _ (h v' w' h2 h3 h4)
end

/-- Rows of the call's own that lie in blocks apart. -/
def Apart (vs : List Value) : Prop := (vs.flatMap fun v => v.ownBlock.toList).Nodup
theorem Apart.swap {l1 l2 : List Value} {v v' : Value} {N : Nat} (h : Apart (l1 ++ v :: l2)) (hl : ∀ u ∈ l1 ++ l2, ∀ g, u.ownBlock = some g → g < N) (hv : v'.ownBlock = v.ownBlock ∨ ∃ g, v'.ownBlock = some g ∧ N ≤ g) : Apart (l1 ++ v' :: l2) := by
  unfold Apart at *
  simp only [List.flatMap_append, List.flatMap_cons] at h ⊢
  rcases hv with hv | ⟨g, hv, hg⟩
  · rw [hv]; exact h
  · rw [hv]
    rw [List.nodup_append] at h ⊢
    obtain ⟨h1, h2, h3⟩ := h
    rw [List.nodup_append] at h2
    obtain ⟨_, h4, _⟩ := h2
    have hn : ∀ l : List Value, (∀ u ∈ l, ∀ g, u.ownBlock = some g → g < N) → g ∉ l.flatMap fun v => v.ownBlock.toList := by
      intro l hl hm
      obtain ⟨u, hu, hug⟩ := List.mem_flatMap.1 hm
      have := hl u hu g (by cases hb : u.ownBlock <;> simp [hb] at hug; rw [hug])
      omega
    have n1 := hn l1 (fun u hu => hl u (by simp [hu]))
    have n2 := hn l2 (fun u hu => hl u (by simp [hu]))
    refine ⟨h1, ?_, fun x hx y hy => ?_⟩
    · simp only [Option.toList_some, List.singleton_append, List.nodup_cons]
      exact ⟨n2, h4⟩
    · simp only [Option.toList_some, List.singleton_append, List.mem_cons] at hy
      rcases hy with rfl | hy
      · rintro rfl; exact n1 hx
      · exact h3 x hx y (by simp only [List.mem_append]; exact .inr hy)
theorem Apart.ne {l1 l2 : List Value} {v u : Value} (h : Apart (l1 ++ v :: l2)) (hu : u ∈ l1 ++ l2) : u.ownBlock = none ∨ u.ownBlock ≠ v.ownBlock := by
  rcases hb : u.ownBlock with _ | g
  · exact .inl rfl
  · refine .inr fun e => ?_
    unfold Apart at h
    simp only [List.flatMap_append, List.flatMap_cons] at h
    rw [List.nodup_append] at h
    obtain ⟨_, h2, h3⟩ := h
    rw [List.nodup_append] at h2
    obtain ⟨_, _, h4⟩ := h2
    have hv : g ∈ v.ownBlock.toList := by rw [← e]; simp
    rw [List.mem_append] at hu
    rcases hu with hu | hu
    · exact h3 g (List.mem_flatMap.2 ⟨u, hu, by rw [hb]; simp⟩) g (by simp only [List.mem_append]; exact .inl hv) rfl
    · exact h4 g hv g (List.mem_flatMap.2 ⟨u, hu, by rw [hb]; simp⟩) rfl
theorem PO.app {α : Type} {K : Nat} {E : World → List Value → α → List Nat → Prop} {w : World} {xs : List α} {cs ecs : List Value} {fp f : List Nat} {x : α} (h : PO K E w xs xs.length cs fp) (hl : cs.length = xs.length * K) (he : ecs.length = K) (hE : E w ecs x f) : PO K E w (xs ++ [x]) (xs.length + 1) (cs ++ ecs) (fp ++ f) := by
  obtain ⟨fps, rfl, hfl, h⟩ := h
  refine ⟨fps ++ [f], by simp, by simp [hfl], fun i y hi hy => ?_⟩
  rcases Nat.lt_or_ge i xs.length with hlt | hge
  · rw [List.getElem?_append_left hlt] at hy
    obtain ⟨ecs', f', h1, h2, h3, h4⟩ := h i y hlt hy
    refine ⟨ecs', f', h1, by rw [List.getElem?_append_left (by omega)]; exact h2, h3, fun j u hu => ?_⟩
    have := h4 j u hu
    rw [List.getElem?_append_left (List.getElem?_eq_some_iff.1 this).1]
    exact this
  · obtain rfl : i = xs.length := by omega
    rw [List.getElem?_append_right (Nat.le_refl _)] at hy
    simp at hy
    subst hy
    exact ⟨ecs, f, he, by rw [List.getElem?_append_right (by omega)]; simp [hfl], hE, fun j u hu => by rw [List.getElem?_append_right (by omega), hl, show xs.length * K + j - xs.length * K = j by omega]; exact hu⟩
/-- one element more at the end of a row of any depth -/
theorem OL_app {α : Type} {e K : Nat} {E : World → List Value → α → List Nat → Prop} {w w' : World} {base : Nat} {v v' : Value} {xs : List α} {cs ecs : List Value} {ifp f : List Nat} {x : α}
    (hrow : w.ownsRow base e K v xs.length cs) (hnd : (v.ownBlock.toList ++ ifp).Nodup) (hlt : ∀ b ∈ v.ownBlock.toList ++ ifp, base ≤ b ∧ b < w.heap.size) (hpo : PO K E w xs xs.length cs ifp) (hEf : EFr E)
    (hecs : ecs.length = K) (hE : E w ecs x f) (hf : f.Nodup) (hfl : ∀ b ∈ f, base ≤ b ∧ b < w.heap.size) (hfd : ∀ b ∈ f, b ∉ v.ownBlock.toList ++ ifp)
    (hrow' : w'.ownsRow base e K v' (xs.length + 1) (cs ++ ecs)) (hg : w.grownBy w' v.ownBlock) (hn : v'.ownBlock = v.ownBlock ∨ ∃ g, v'.ownBlock = some g ∧ w.heap.size ≤ g) : OL e K E w' base v' (xs ++ [x]) (v'.ownBlock.toList ++ (ifp ++ f)) := by
  rw [List.nodup_append] at hnd
  obtain ⟨hn1, hn2, hn3⟩ := hnd
  have hk : ∀ b ∈ ifp ++ f, w'.heap[b]? = w.heap[b]? := fun b hb => by
    rcases List.mem_append.1 hb with hb | hb
    · exact hg.block b (hlt b (by simp [hb])).2 (fun e => hn3 b (by rw [← e]; simp) b hb rfl)
    · exact hg.block b (hfl b hb).2 (fun e => hfd b hb (by rw [← e]; simp))
  refine ⟨cs ++ ecs, ifp ++ f, by rw [List.length_append]; exact hrow', rfl, ?_, fun b hb => ?_, ?_⟩
  · rw [List.nodup_append]
    refine ⟨by cases v'.ownBlock <;> simp, ?_, fun a ha b hb hab => ?_⟩
    · rw [List.nodup_append]
      exact ⟨hn2, hf, fun a ha b hb hab => hfd b hb (by simp only [List.mem_append]; exact .inr (hab ▸ ha))⟩
    · subst hab
      rcases hn with hv | ⟨g, hv, hg2⟩
      · rw [hv] at ha
        rcases List.mem_append.1 hb with hb | hb
        · exact hn3 a ha a hb rfl
        · exact hfd a hb (by simp only [List.mem_append]; exact .inl ha)
      · rw [hv] at ha
        simp at ha
        subst ha
        rcases List.mem_append.1 hb with hb | hb
        · have := (hlt a (by simp [hb])).2; omega
        · have := (hfl a hb).2; omega
  · rcases List.mem_append.1 hb with hb | hb
    · exact hrow'.lt b (by cases hv : v'.ownBlock <;> simp [hv] at hb; rw [hb])
    · rcases List.mem_append.1 hb with hb | hb
      · have := hlt b (by simp [hb])
        exact ⟨this.1, Nat.lt_of_lt_of_le this.2 hg.size⟩
      · have := hfl b hb
        exact ⟨this.1, Nat.lt_of_lt_of_le this.2 hg.size⟩
  · have := (hpo.app hrow.1 hecs hE).keep hEf hk
    rw [List.length_append]
    exact this
theorem grown_blk {w w' : World} {row : Option Nat} {b : Nat} {o : Obj} (hg : w.grownBy w' row) (h : w.heap[b]? = some o) (hne : ∀ k, row = some k → k ≠ b) : w'.heap[b]? = some o :=
  (hg.block b (lt_of_block h) (fun e => hne b e.symm rfl)).trans h
theorem below_grown {base : Nat} {a w w' : World} {e K n : Nat} {v : Value} {xs : List Value} (h : Below base a w) (ho : w.ownsRow base e K v n xs) (hg : w.grownBy w' v.ownBlock) (hB : base ≤ w.heap.size) : Below base a w' :=
  h.grown hg hB (fun k hk => (ho.lt k hk).1)
end Go.Proofs.YteamlfcfillbjaaGreat
