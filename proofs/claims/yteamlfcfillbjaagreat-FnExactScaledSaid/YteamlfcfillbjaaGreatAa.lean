/-
  append of a whole slice that reads as a list of flat elements onto a row of the call's own. No program is named here.
-/
import Derived.Test.YteamlfcfillbjaaGreatAp
namespace Go.Proofs.YteamlfcfillbjaaGreat
set_option linter.unusedVariables false
set_option linter.unusedSimpArgs false
set_option maxRecDepth 100000
open Go.RowKit
theorem flatMap_get {α : Type} {f : α → List Value} {K : Nat} (hK : ∀ x, (f x).length = K) {j : Nat} (hj : j < K) : ∀ (l : List α) (i : Nat) (x : α), l[i]? = some x → (l.flatMap f)[i * K + j]? = (f x)[j]? := by
  intro l
  induction l with
  | nil => intro i x h; simp at h
  | cons y l ih =>
    intro i x h
    cases i with
    | zero =>
      simp at h
      subst h
      rw [List.flatMap_cons, List.getElem?_append_left (by rw [hK]; omega)]
      simp
    | succ i =>
      rw [List.flatMap_cons, List.getElem?_append_right (by rw [hK, Nat.add_mul]; omega), hK, show (i + 1) * K + j - K = i * K + j by rw [Nat.add_mul]; omega]
      exact ih i x (by simpa using h)
theorem flatMap_len {α : Type} {f : α → List Value} {K : Nat} (hK : ∀ x, (f x).length = K) : ∀ l : List α, (l.flatMap f).length = l.length * K
  | [] => by simp
  | x :: l => by rw [List.flatMap_cons, List.length_append, hK, flatMap_len hK l, List.length_cons, Nat.add_mul]; omega
/-- a flat slice's cells, one behind the other -/
theorem RL.cells {α : Type} {bd K : Nat} {f : α → List Value} {w : World} {B n c : Nat} {A : Option Addr} {xs : List α} (h : RL bd K (flat f) w B (.slice A n c) xs) (hK : ∀ x, (f x).length = K) (hn : 0 < xs.length) :
    ∃ b off, A = some ⟨b, off, none⟩ ∧ b < B ∧ ∀ (j : Nat) (u : Value), (xs.flatMap f)[j]? = some u → w.cell? ⟨b, off + j, none⟩ = some u := by
  obtain ⟨A', c', hv, _, hA⟩ := h
  obtain ⟨b, off, rfl, hb, hc⟩ := hA hn
  injection hv with h1 _ _
  refine ⟨b, off, h1, hb, fun j u hu => ?_⟩
  have hj := (List.getElem?_eq_some_iff.1 hu).1
  rw [flatMap_len hK] at hj
  have hK0 : 0 < K := Nat.pos_of_ne_zero (fun e => by rw [e] at hj; simp at hj)
  have hi : j / K < xs.length := Nat.div_lt_of_lt_mul (by rw [Nat.mul_comm]; exact hj)
  obtain ⟨cs, hl, hR, hcs⟩ := hc (j / K) _ (List.getElem?_eq_getElem hi)
  have hd : j / K * K + j % K = j := by rw [Nat.mul_comm]; exact Nat.div_add_mod j K
  have h2 := flatMap_get hK (Nat.mod_lt j hK0) xs (j / K) _ (List.getElem?_eq_getElem hi)
  rw [hd, hu] at h2
  have h3 := hcs (j % K) u (by rw [hR]; exact h2.symm)
  rw [Nat.add_assoc, hd] at h3
  exact h3
theorem addr_add (b off j : Nat) : (⟨b, off, none⟩ : Addr).add j = ⟨b, off + j, none⟩ := by
  unfold Addr.add
  split
  · rename_i h0; rw [h0]; rfl
  · rfl
section
variable {P : Program}
theorem run_appAll (w : World) {α : Type} (base : Nat) (t ty e : TypeId) (i : TypeInfo) (z : Value) (size bytes : Nat) (ht : P.underlying t = some (.slice e)) (hi : P.info? e = some i) (hz : i.zero = some z)
    (hsize : i.size = size) (hby : i.bytes = bytes) (hzs : z.cells.size = size) (hsz : 0 < size)
    (v : Value) (n : Nat) (xs : List Value) (hown : w.ownsRow base e size v n xs)
    (bd B : Nat) (f : α → List Value) (A : Option Addr) (m c : Nat) (ys : List α) (hr : RL bd size (flat f) w B (.slice A m c) ys) (hm : m = ys.length) (hf : ∀ y, (f y).length = size) (h1 : ∀ y, ∀ u ∈ f y, u.oneCell' = true)
    (h63 : n + m ≤ maxLen) (hbytes : (n + m) * bytes ≤ 140737488355328) (hbase : base ≤ w.heap.size) :
    ∃ v' w', (Builtin.append_ #[t, t] ty #[v, .slice A m c]).run P w = .ok v' w' ∧ w'.ownsRow base e size v' (n + m) (xs ++ ys.flatMap f) ∧ w.grownBy w' v.ownBlock ∧
      (v'.ownBlock = v.ownBlock ∨ v'.ownBlock = some w.heap.size) := by
  subst hm
  rcases A with _ | ad
  · have hm : ys.length = 0 := by
      rcases Nat.eq_zero_or_pos ys.length with h0 | h0
      · exact h0
      · obtain ⟨b, off, h, _⟩ := hr.cells hf h0
        cases h
    have hy : ys = [] := List.eq_nil_of_length_eq_zero hm
    subst hy
    refine ⟨v, w, ?_, by simpa using hown, World.grownBy.refl w _, .inl rfl⟩
    rcases hown.2 with ⟨rfl, rfl⟩ | ⟨g, cap, cur, rfl, _, _, hnc, _⟩
    · simp [Builtin.append_, run_underlying ht, sizeOf, typeInfo, hi, Builtin.lenOf, Builtin.firstCells]
    · simp [Builtin.append_, run_underlying ht, sizeOf, typeInfo, hi, Builtin.lenOf, Builtin.firstCells, hnc, storeCells]
  · have hnews : ∀ j u, (ys.flatMap f)[j]? = some u → w.cell? (ad.add j) = some u := by
      intro j u hu
      have hpos : 0 < ys.length := by
        rcases Nat.eq_zero_or_pos ys.length with h0 | h0
        · rw [List.eq_nil_of_length_eq_zero h0] at hu; simp at hu
        · exact h0
      obtain ⟨b, off, h, _, hc⟩ := hr.cells hf hpos
      injection h with h
      rw [h, addr_add]
      exact hc j u hu
    obtain ⟨v', w', hrun, h2, h3, _, h5⟩ := run_append_own_at (P := P) w base t ty e i z size bytes ht hi hz hsize hby hzs hsz v n xs hown ad ys.length c (ys.flatMap f) (flatMap_len hf ys) hnews (fun u hu => by obtain ⟨y, _, hy⟩ := List.mem_flatMap.1 hu; exact h1 y u hy) h63 hbytes hbase
    exact ⟨v', w', hrun, h2, h3, h5⟩
theorem wp_appAll {o : Oper} {a : Act} {K : Act → World → Prop} {Q : Exit → Act → World → Prop} (w : World) {α : Type} (s x : Operand) (t : TypeId)
    (ho : o.op = .call { callee := .builtin .append, args := #[s, x], argTypes := #[t, t] })
    (base : Nat) (e : TypeId) (i : TypeInfo) (z : Value) (size bytes : Nat) (ht : P.underlying t = some (.slice e)) (hi : P.info? e = some i) (hz : i.zero = some z)
    (hsize : i.size = size) (hby : i.bytes = bytes) (hzs : z.cells.size = size) (hsz : 0 < size)
    (v : Value) (n : Nat) (xs : List Value) (hs : a.eval s = v) (hown : w.ownsRow base e size v n xs)
    (bd B : Nat) (f : α → List Value) (A : Option Addr) (m c : Nat) (ys : List α) (hx : a.eval x = .slice A m c) (hr : RL bd size (flat f) w B (.slice A m c) ys) (hm : m = ys.length) (hf : ∀ y, (f y).length = size) (h1 : ∀ y, ∀ u ∈ f y, u.oneCell' = true)
    (h63 : n + m ≤ maxLen) (hbytes : (n + m) * bytes ≤ 140737488355328) (hbase : base ≤ w.heap.size)
    (h : ∀ v' w', w'.ownsRow base e size v' (n + m) (xs ++ ys.flatMap f) → w.grownBy w' v.ownBlock → (v'.ownBlock = v.ownBlock ∨ v'.ownBlock = some w.heap.size) → K (a.put o.dst v') w') : o.wp P a w K Q := by
  obtain ⟨v', w', hrun, h2, h3, h4⟩ := run_appAll (P := P) w base t o.type e i z size bytes ht hi hz hsize hby hzs hsz v n xs hown bd B f A m c ys hr hm hf h1 h63 hbytes hbase
  unfold Oper.wp execOp
  simp only [ho, resolve, invoke, builtin, Sem.run_bind, Sem.run_pure, Result.andThen_ok, List.map_toArray, List.map_cons, List.map_nil, hs, hx, hrun]
  exact h v' w' h2 h3 h4
theorem wpList_appAll {ops : Array Oper} {rest : List Oper} {o : Oper} {a : Act} {Q : Exit → Act → World → Prop} (w : World) {α : Type} (hgd : o.guard = none) (s x : Operand) (t : TypeId)
    (ho : o.op = .call { callee := .builtin .append, args := #[s, x], argTypes := #[t, t] })
    (base : Nat) (e : TypeId) (i : TypeInfo) (z : Value) (size bytes : Nat) (ht : P.underlying t = some (.slice e)) (hi : P.info? e = some i) (hz : i.zero = some z)
    (hsize : i.size = size) (hby : i.bytes = bytes) (hzs : z.cells.size = size) (hsz : 0 < size)
    (v : Value) (n : Nat) (xs : List Value) (hs : a.eval s = v) (hown : w.ownsRow base e size v n xs)
    (bd B : Nat) (f : α → List Value) (A : Option Addr) (m c : Nat) (ys : List α) (hx : a.eval x = .slice A m c) (hr : RL bd size (flat f) w B (.slice A m c) ys) (hm : m = ys.length) (hf : ∀ y, (f y).length = size) (h1 : ∀ y, ∀ u ∈ f y, u.oneCell' = true)
    (h63 : n + m ≤ maxLen) (hbytes : (n + m) * bytes ≤ 140737488355328) (hbase : base ≤ w.heap.size)
    (h : ∀ v' w', w'.ownsRow base e size v' (n + m) (xs ++ ys.flatMap f) → w.grownBy w' v.ownBlock → (v'.ownBlock = v.ownBlock ∨ v'.ownBlock = some w.heap.size) → wpList P ops Q rest (a.put o.dst v') w') :
    wpList P ops Q (o :: rest) a w :=
  wpList_plain hgd fun _ hK => wp_appAll w s x t ho base e i z size bytes ht hi hz hsize hby hzs hsz v n xs hs hown bd B f A m c ys hx hr hm hf h1 h63 hbytes hbase fun v' w' h2 h3 h4 => hK _ _ (h v' w' h2 h3 h4)
theorem step_appAll {ops : Array Oper} {o : Oper} {a : Act} {K : Act → World → Prop} {Q : Exit → Act → World → Prop} {E : Prop} (w : World) {α : Type} (hgd : o.guard = none) (s x : Operand) (t : TypeId)
    (ho : o.op = .call { callee := .builtin .append, args := #[s, x], argTypes := #[t, t] })
    (base : Nat) (e : TypeId) (i : TypeInfo) (z : Value) (size bytes : Nat) (ht : P.underlying t = some (.slice e)) (hi : P.info? e = some i) (hz : i.zero = some z)
    (hsize : i.size = size) (hby : i.bytes = bytes) (hzs : z.cells.size = size) (hsz : 0 < size)
    (v : Value) (n : Nat) (xs : List Value) (hs : a.eval s = v) (hown : w.ownsRow base e size v n xs)
    (bd B : Nat) (f : α → List Value) (A : Option Addr) (m c : Nat) (ys : List α) (hx : a.eval x = .slice A m c) (hr : RL bd size (flat f) w B (.slice A m c) ys) (hm : m = ys.length) (hf : ∀ y, (f y).length = size) (h1 : ∀ y, ∀ u ∈ f y, u.oneCell' = true)
    (h63 : n + m ≤ maxLen) (hbytes : (n + m) * bytes ≤ 140737488355328) (hbase : base ≤ w.heap.size)
    (h : ∀ v' w', w'.ownsRow base e size v' (n + m) (xs ++ ys.flatMap f) → w.grownBy w' v.ownBlock → (v'.ownBlock = v.ownBlock ∨ v'.ownBlock = some w.heap.size) → K (a.put o.dst v') w') :
    if Region.wanted o (yielded ops a.tmps) = true then Oper.wp P o a w K Q else E := by
  have hw : Region.wanted o (yielded ops a.tmps) = true := by simp [Region.wanted, hgd]
  rw [if_pos hw]
  exact wp_appAll w s x t ho base e i z size bytes ht hi hz hsize hby hzs hsz v n xs hs hown bd B f A m c ys hx hr hm hf h1 h63 hbytes hbase h
end
theorem own_empty {w : World} {base e K g : Nat} (hb : base ≤ g) (h : w.heap[g]? = some (.cells #[] e (0, 0))) : w.ownsRow base e K (.slice (some ⟨g, 0, none⟩) 0 0) 0 [] :=
  ⟨by simp, .inr ⟨g, 0, #[], rfl, hb, h, Nat.le_refl _, by unfold maxLen; omega, by simp, by simp⟩⟩
theorem RL_one {w : World} {g bd k B : Nat} {e : TypeId} {news : Array Value} (h : w.heap[g]? = some (.cells news e (0, 0))) (hk : news.size = k) (hB : g < B) (hbd : 1 ≤ bd) : RL bd k (flat fun _ : Unit => news.toList) w B (.slice (some ⟨g, 0, none⟩) 1 1) [()] := by
  refine ⟨_, 1, rfl, ⟨hbd, Nat.le_refl _⟩, fun _ => ⟨g, 0, rfl, hB, fun i x hx => ?_⟩⟩
  have hi : i = 0 := by rcases i with _ | i <;> simp at hx; rfl
  subst hi
  refine ⟨news.toList, by simpa using hk, rfl, fun j u hu => ?_⟩
  rw [cell_of_row _ _ _ _ _ (0, 0) h]
  simpa using hu
theorem OL_empty {α : Type} {e K base : Nat} {E : World → List Value → α → List Nat → Prop} {w : World} {v : Value} (h : w.ownsRow base e K v 0 []) : OL e K E w base v [] v.ownBlock.toList := by
  refine ⟨[], [], h, by simp, by cases v.ownBlock <;> simp, fun b hb => ?_, PO.zero⟩
  exact h.lt b (by cases hv : v.ownBlock <;> simp [hv] at hb; rw [hb])
/-- A growing list of the call's own: it lies in a row made at or behind block base, or it is still the empty one, laid between B0 and base. -/
def ownsZ (w : World) (B0 base e K : Nat) (v : Value) (n : Nat) (xs : List Value) : Prop :=
  (∃ g, v = .slice (some ⟨g, 0, none⟩) 0 0 ∧ n = 0 ∧ xs = [] ∧ B0 ≤ g ∧ g < base ∧ w.heap[g]? = some (.cells #[] e (0, 0))) ∨ w.ownsRow base e K v n xs
section
variable {w w' : World} {B0 base e K n : Nat} {v : Value} {xs : List Value}
theorem ownsZ.own (h : ownsZ w B0 base e K v n xs) (hB : B0 ≤ base) : w.ownsRow B0 e K v n xs := by
  rcases h with ⟨g, rfl, rfl, rfl, h1, h2, h3⟩ | h
  · exact ⟨by simp, .inr ⟨g, 0, #[], rfl, h1, h3, Nat.le_refl _, by unfold maxLen; omega, by simp, by simp⟩⟩
  · exact own_base h hB
theorem ownsZ.keep (h : ownsZ w B0 base e K v n xs) (hk : ∀ b, v.ownBlock = some b → w'.heap[b]? = w.heap[b]?) : ownsZ w' B0 base e K v n xs := by
  rcases h with ⟨g, rfl, rfl, rfl, h1, h2, h3⟩ | h
  · exact .inl ⟨g, rfl, rfl, rfl, h1, h2, (hk g rfl).trans h3⟩
  · exact .inr (own_block h hk)
theorem ownsZ.lt (h : ownsZ w B0 base e K v n xs) : ∀ b, v.ownBlock = some b → b < w.heap.size := by
  rcases h with ⟨g, rfl, rfl, rfl, h1, h2, h3⟩ | h
  · intro b hb; cases hb; exact (Array.getElem?_eq_some_iff.1 h3).1
  · exact fun b hb => (h.lt b hb).2
theorem ownsZ.next (h : ownsZ w B0 base e K v n xs) (hb : Below w.heap.size w w') : ownsZ w' B0 base e K v n xs := h.keep fun b hb' => hb.block b (h.lt b hb')
theorem ownsZ.alloc (h : ownsZ w B0 base e K v n xs) (o : Obj) : ownsZ (w.alloc o) B0 base e K v n xs := h.keep fun b hb => Below.heap_alloc _ _ _ (h.lt b hb)
theorem ownsZ_start {g : Nat} (h1 : B0 ≤ g) (h2 : g < base) (h3 : w.heap[g]? = some (.cells #[] e (0, 0))) : ownsZ w B0 base e K (.slice (some ⟨g, 0, none⟩) 0 0) 0 [] := .inl ⟨g, rfl, rfl, rfl, h1, h2, h3⟩
theorem ownsZ_nil : ownsZ w B0 base e K (.slice none 0 0) 0 [] := .inr ⟨by simp, .inl ⟨rfl, rfl⟩⟩
end
section
variable {P : Program}
theorem run_appZ (w : World) {α : Type} (B0 base : Nat) (t ty e : TypeId) (i : TypeInfo) (z : Value) (size bytes : Nat) (ht : P.underlying t = some (.slice e)) (hi : P.info? e = some i) (hz : i.zero = some z)
    (hsize : i.size = size) (hby : i.bytes = bytes) (hzs : z.cells.size = size) (hsz : 0 < size)
    (v : Value) (n : Nat) (xs : List Value) (hown : ownsZ w B0 base e size v n xs)
    (bd B : Nat) (f : α → List Value) (A : Option Addr) (m c : Nat) (ys : List α) (hr : RL bd size (flat f) w B (.slice A m c) ys) (hf : ∀ y, (f y).length = size) (h1 : ∀ y, ∀ u ∈ f y, u.oneCell' = true)
    (h63 : n + m ≤ maxLen) (hbytes : (n + m) * bytes ≤ 140737488355328) (hbase : base ≤ w.heap.size) :
    ∃ v' w', (Builtin.append_ #[t, t] ty #[v, .slice A m c]).run P w = .ok v' w' ∧ ownsZ w' B0 base e size v' (n + m) (xs ++ ys.flatMap f) ∧ Below base w w' ∧ w.heap.size ≤ w'.heap.size ∧ (∀ b, v'.ownBlock = some b → v.ownBlock = some b ∨ w.heap.size ≤ b) ∧ (∀ b, b < w.heap.size → v.ownBlock ≠ some b → w'.heap[b]? = w.heap[b]?) := by
  have hm := hr.len_cap.1
  rcases hown with ⟨g, rfl, rfl, rfl, hg1, hg2, hg3⟩ | hown
  · rcases Nat.eq_zero_or_pos ys.length with h0 | h0
    · have hy : ys = [] := List.eq_nil_of_length_eq_zero h0
      subst hy
      subst hm
      refine ⟨_, w, ?_, .inl ⟨g, rfl, by simp, by simp, hg1, hg2, hg3⟩, Below.refl _ _, Nat.le_refl _, fun b hb => .inl hb, fun _ _ _ => rfl⟩
      rcases A with _ | ad <;> simp [Builtin.append_, run_underlying ht, sizeOf, typeInfo, hi, Builtin.lenOf, Builtin.firstCells, storeCells, loadCells, loadCellsFrom]
    · obtain ⟨b, off, rfl, _, hc⟩ := hr.cells hf h0
      subst hm
      subst hsize
      subst hby
      have hrun := run_append_grow (P := P) w t ty e i z ht hi hz ⟨g, 0, none⟩ 0 0 [] (by simp) (by simp) ⟨b, off, none⟩ ys.length c (ys.flatMap f) (flatMap_len hf ys) (fun j u hu => by rw [addr_add]; exact hc j u hu) (by omega) (by unfold maxLen at h63; omega) (growslice_fits (by omega) hbytes)
      have hge := grownCap_ge w (0 + ys.length) 0 e
      have hcm : grownCap w (0 + ys.length) 0 e ≤ maxLen := grownCap_le_maxLen w (0 + ys.length) 0 e h63
      refine ⟨_, _, hrun, .inr ⟨by simp [flatMap_len hf], .inr ⟨w.heap.size, _, _, rfl, hbase, heap_alloc_new w.drew _, hge, hcm, ?_, ?_⟩⟩, ((Below.refl _ _).drew).alloc (by simpa using hbase) _, by simp, fun b hb => .inr (by simp [Value.ownBlock] at hb; omega), fun b hb _ => Below.heap_alloc w.drew _ b hb⟩
      · simp only [Array.size_append, List.size_toArray, size_zeroCells, hzs, List.length_nil, flatMap_len hf]
        have hS : ∀ cap, 0 + ys.length ≤ cap → 0 + ys.length * i.size + (cap - (0 + ys.length)) * i.size = cap * i.size := by
          intro cap h
          rw [Nat.zero_add, ← Nat.add_mul]
          congr 1
          omega
        exact hS _ hge
      · simp only [Array.toList_append, List.nil_append, Nat.zero_add]
        rw [← flatMap_len hf]
        exact List.take_left
  · obtain ⟨v', w', hrun, h2, h3, h4⟩ := run_appAll (P := P) w base t ty e i z size bytes ht hi hz hsize hby hzs hsz v n xs hown bd B f A m c ys hr hm hf h1 h63 hbytes hbase
    refine ⟨v', w', hrun, .inr h2, below_grown (Below.refl _ _) hown h3 hbase, h3.size, fun b hb => ?_, fun b hb hne => h3.block b hb (fun e => hne e.symm)⟩
    rcases h4 with h4 | h4
    · exact .inl (h4 ▸ hb)
    · rw [h4] at hb; cases hb; exact .inr (Nat.le_refl _)
end
end Go.Proofs.YteamlfcfillbjaaGreat
