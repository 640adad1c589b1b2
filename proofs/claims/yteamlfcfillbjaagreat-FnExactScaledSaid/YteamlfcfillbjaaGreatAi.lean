/-
  append at the element types of this program, said of lists: one element just laid; a whole slice that reads as a list. Written by wip/aifam.py.
-/
import Derived.Test.YteamlfcfillbjaaGreatAa
import Derived.Test.YteamlfcfillbjaaGreatFa
namespace Go.Proofs.YteamlfcfillbjaaGreat
set_option linter.unusedVariables false
set_option linter.unusedSimpArgs false
set_option maxRecDepth 100000
open Go.RowKit
theorem grown_below {base e size n : Nat} {w w' : World} {v : Value} {xs : List Value} (ho : w.ownsRow base e size v n xs) (hg : w.grownBy w' v.ownBlock) (hB : base ≤ w.heap.size) : Below base w w' := below_grown (Below.refl _ _) ho hg hB

theorem one_Int : ∀ (y : Int), ∀ u ∈ cI y, u.oneCell' = true := fun y u hu => by simp [cI] at hu; subst hu; rfl
theorem app_Int {ops : Array Oper} {rest : List Oper} {o : Oper} {a : Act} {Q : Exit → Act → World → Prop} {w0 : World} (s x : Operand) (hgd : o.guard = none)
    (ho : o.op = .call { callee := .builtin .append, args := #[s, x], argTypes := #[98, 98] }) {base : Nat} {v : Value} {xs : List Int} (y : Int) {news : Array Value} {N : Nat} (hs : a.eval s = v)
    (hx : a.eval x = .slice (some ⟨N, 0, none⟩) 1 1) (hN : N = w0.heap.size) (hy : news = (cI y).toArray) (hown : w0.ownsRow base 3 1 v xs.length (xs.flatMap cI)) (hl : xs.length < 16777216) (hbase : base ≤ w0.heap.size)
    (h : ∀ v' w', w'.ownsRow base 3 1 v' (xs ++ [y]).length ((xs ++ [y]).flatMap cI) → Below base w0 w' → w0.grownBy w' v.ownBlock → (v'.ownBlock = v.ownBlock ∨ ∃ g, v'.ownBlock = some g ∧ w0.heap.size ≤ g) → wpList Tryz.prog ops Q rest (a.put o.dst v') w') :
    wpList Tryz.prog ops Q (o :: rest) a (w0.alloc (.cells news 3)) := by
  obtain ⟨i0, hi, hz0, hz1, hz2⟩ := info_parts info_int
  subst hy
  exact wpList_app1 w0 hgd s x 98 ho base 3 i0 _ 1 8 Tryz.underlying98 hi hz0 hz1 hz2 rfl (by omega) v _ _ hs hown _ N hx hN rfl (fun u hu => one_Int y u (by simpa using hu)) (by unfold maxLen; omega) (by omega) hbase
    (fun v' w' h1 h2 h3 => h v' w' (by simpa using h1) (grown_below hown h2 hbase) h2 h3)
theorem appAll_Int {ops : Array Oper} {rest : List Oper} {o : Oper} {a : Act} {Q : Exit → Act → World → Prop} {w : World} (s x : Operand) (hgd : o.guard = none)
    (ho : o.op = .call { callee := .builtin .append, args := #[s, x], argTypes := #[98, 98] }) {base bd B : Nat} {v : Value} {xs ys : List Int} {A : Option Addr} {m c : Nat} (hs : a.eval s = v)
    (hx : a.eval x = .slice A m c) (hr : RL bd 1 (flat cI) w B (.slice A m c) ys) (hown : w.ownsRow base 3 1 v xs.length (xs.flatMap cI)) (hl : xs.length + ys.length ≤ 33554432) (hbase : base ≤ w.heap.size)
    (h : ∀ v' w', w'.ownsRow base 3 1 v' (xs ++ ys).length ((xs ++ ys).flatMap cI) → Below base w w' → w.grownBy w' v.ownBlock → (v'.ownBlock = v.ownBlock ∨ v'.ownBlock = some w.heap.size) → wpList Tryz.prog ops Q rest (a.put o.dst v') w') :
    wpList Tryz.prog ops Q (o :: rest) a w := by
  obtain ⟨i0, hi, hz0, hz1, hz2⟩ := info_parts info_int
  have hm := hr.len_cap.1
  exact wpList_appAll w hgd s x 98 ho base 3 i0 _ 1 8 Tryz.underlying98 hi hz0 hz1 hz2 rfl (by omega) v _ _ hs hown bd B cI A m c ys hx hr hm (fun _ => rfl) one_Int (by unfold maxLen; omega) (by omega) hbase
    (fun v' w' h1 h2 h3 => h v' w' (by rw [List.length_append, List.flatMap_append, ← hm]; exact h1) (grown_below hown h2 hbase) h2 h3)
/-- what an append to a growing list leaves -/
def AftZ_Int (w0 : World) (B0 base : Nat) (v : Value) (xs : List Int) (v' : Value) (w' : World) : Prop :=
  ownsZ w' B0 base 3 1 v' xs.length (xs.flatMap cI) ∧ Below base w0 w' ∧ (∀ b, v'.ownBlock = some b → v.ownBlock = some b ∨ w0.heap.size ≤ b) ∧ (∀ b, b < w0.heap.size → v.ownBlock ≠ some b → w'.heap[b]? = w0.heap[b]?)
theorem appZ_Int {ops : Array Oper} {rest : List Oper} {o : Oper} {a : Act} {Q : Exit → Act → World → Prop} {w : World} (s x : Operand) (hgd : o.guard = none)
    (ho : o.op = .call { callee := .builtin .append, args := #[s, x], argTypes := #[98, 98] }) {B0 base bd B : Nat} {v : Value} {xs ys : List Int} {A : Option Addr} {m c : Nat} (hs : a.eval s = v)
    (hx : a.eval x = .slice A m c) (hr : RL bd 1 (flat cI) w B (.slice A m c) ys) (hown : ownsZ w B0 base 3 1 v xs.length (xs.flatMap cI)) (hl : xs.length + ys.length ≤ 33554432) (hbase : base ≤ w.heap.size)
    (h : ∀ v' w', ownsZ w' B0 base 3 1 v' (xs ++ ys).length ((xs ++ ys).flatMap cI) → Below base w w' → (∀ b, v'.ownBlock = some b → v.ownBlock = some b ∨ w.heap.size ≤ b) → (∀ b, b < w.heap.size → v.ownBlock ≠ some b → w'.heap[b]? = w.heap[b]?) → wpList Tryz.prog ops Q rest (a.put o.dst v') w') :
    wpList Tryz.prog ops Q (o :: rest) a w := by
  obtain ⟨i0, hi, hz0, hz1, hz2⟩ := info_parts info_int
  have hm := hr.len_cap.1
  obtain ⟨v', w', hrun, h2, h3, _, h4, h5⟩ := run_appZ (P := Tryz.prog) w B0 base 98 o.type 3 i0 _ 1 8 Tryz.underlying98 hi hz0 hz1 hz2 rfl (by omega) v _ _ hown bd B cI A m c ys hr (fun _ => rfl) one_Int (by unfold maxLen; omega) (by omega) hbase
  refine wpList_plain hgd fun _ hK => ?_
  unfold Oper.wp execOp
  simp only [ho, resolve, invoke, builtin, Sem.run_bind, Sem.run_pure, Result.andThen_ok, List.map_toArray, List.map_cons, List.map_nil, hs, hx, hrun]
  exact hK _ _ (h v' w' (by rw [List.length_append, List.flatMap_append, ← hm]; exact h2) h3 h4 h5)
theorem appZ1_Int {ops : Array Oper} {rest : List Oper} {o : Oper} {a : Act} {Q : Exit → Act → World → Prop} {w0 : World} (s x : Operand) (hgd : o.guard = none)
    (ho : o.op = .call { callee := .builtin .append, args := #[s, x], argTypes := #[98, 98] }) {B0 base : Nat} {v : Value} {xs : List Int} (y : Int) {news : Array Value} {N : Nat} (hs : a.eval s = v)
    (hx : a.eval x = .slice (some ⟨N, 0, none⟩) 1 1) (hN : N = w0.heap.size) (hy : news = (cI y).toArray) (hown : ownsZ w0 B0 base 3 1 v xs.length (xs.flatMap cI)) (hl : xs.length < 16777216) (hbase : base ≤ w0.heap.size)
    (h : ∀ v' w', ownsZ w' B0 base 3 1 v' (xs ++ [y]).length ((xs ++ [y]).flatMap cI) → Below base w0 w' → (∀ b, v'.ownBlock = some b → v.ownBlock = some b ∨ w0.heap.size ≤ b) → (∀ b, b < w0.heap.size → v.ownBlock ≠ some b → w'.heap[b]? = w0.heap[b]?) → wpList Tryz.prog ops Q rest (a.put o.dst v') w') :
    wpList Tryz.prog ops Q (o :: rest) a (w0.alloc (.cells news 3)) := by
  subst hN
  subst hy
  have hr : RL 1 1 (flat cI) (w0.alloc (.cells (cI y).toArray 3)) (w0.heap.size + 1) (.slice (some ⟨w0.heap.size, 0, none⟩) 1 1) [y] := by
    refine ⟨_, 1, rfl, ⟨Nat.le_refl _, Nat.le_refl _⟩, fun _ => ⟨_, 0, rfl, Nat.lt_succ_self _, fun i x hx => ?_⟩⟩
    have hi : i = 0 := by rcases i with _ | i <;> simp at hx; rfl
    subst hi
    simp at hx
    subst hx
    refine ⟨_, rfl, rfl, fun j u hu => ?_⟩
    rw [cell_of_row _ _ _ _ _ (0, 0) (heap_alloc_new w0 _)]
    simpa using hu
  exact appZ_Int s x hgd ho hs hx hr (hown.alloc _) (by simp; omega) (by simp; omega) (fun v' w' h1 h2 h3 h4 => h v' w' h1 (((Below.refl base w0).alloc hbase _).trans h2)
    (fun b hb => (h3 b hb).imp id (fun h => Nat.le_trans (by simp) h)) (fun b hb hne => (h4 b (by simp; omega) hne).trans (Below.heap_alloc _ _ _ hb)))
theorem one_Pair : ∀ (y : Pair), ∀ u ∈ Pair.cells y, u.oneCell' = true := fun y u hu => by simp [Pair.cells] at hu; rcases hu with rfl | rfl <;> rfl
theorem app_Pair {ops : Array Oper} {rest : List Oper} {o : Oper} {a : Act} {Q : Exit → Act → World → Prop} {w0 : World} (s x : Operand) (hgd : o.guard = none)
    (ho : o.op = .call { callee := .builtin .append, args := #[s, x], argTypes := #[33, 33] }) {base : Nat} {v : Value} {xs : List Pair} (y : Pair) {news : Array Value} {N : Nat} (hs : a.eval s = v)
    (hx : a.eval x = .slice (some ⟨N, 0, none⟩) 1 1) (hN : N = w0.heap.size) (hy : news = (Pair.cells y).toArray) (hown : w0.ownsRow base 81 2 v xs.length (xs.flatMap Pair.cells)) (hl : xs.length < 16777216) (hbase : base ≤ w0.heap.size)
    (h : ∀ v' w', w'.ownsRow base 81 2 v' (xs ++ [y]).length ((xs ++ [y]).flatMap Pair.cells) → Below base w0 w' → w0.grownBy w' v.ownBlock → (v'.ownBlock = v.ownBlock ∨ ∃ g, v'.ownBlock = some g ∧ w0.heap.size ≤ g) → wpList Tryz.prog ops Q rest (a.put o.dst v') w') :
    wpList Tryz.prog ops Q (o :: rest) a (w0.alloc (.cells news 81)) := by
  obtain ⟨i0, hi, hz0, hz1, hz2⟩ := info_parts info_Pair
  subst hy
  exact wpList_app1 w0 hgd s x 33 ho base 81 i0 _ 2 16 Tryz.underlying33 hi hz0 hz1 hz2 rfl (by omega) v _ _ hs hown _ N hx hN rfl (fun u hu => one_Pair y u (by simpa using hu)) (by unfold maxLen; omega) (by omega) hbase
    (fun v' w' h1 h2 h3 => h v' w' (by simpa using h1) (grown_below hown h2 hbase) h2 h3)
theorem appAll_Pair {ops : Array Oper} {rest : List Oper} {o : Oper} {a : Act} {Q : Exit → Act → World → Prop} {w : World} (s x : Operand) (hgd : o.guard = none)
    (ho : o.op = .call { callee := .builtin .append, args := #[s, x], argTypes := #[33, 33] }) {base bd B : Nat} {v : Value} {xs ys : List Pair} {A : Option Addr} {m c : Nat} (hs : a.eval s = v)
    (hx : a.eval x = .slice A m c) (hr : RL bd 2 (flat Pair.cells) w B (.slice A m c) ys) (hown : w.ownsRow base 81 2 v xs.length (xs.flatMap Pair.cells)) (hl : xs.length + ys.length ≤ 33554432) (hbase : base ≤ w.heap.size)
    (h : ∀ v' w', w'.ownsRow base 81 2 v' (xs ++ ys).length ((xs ++ ys).flatMap Pair.cells) → Below base w w' → w.grownBy w' v.ownBlock → (v'.ownBlock = v.ownBlock ∨ v'.ownBlock = some w.heap.size) → wpList Tryz.prog ops Q rest (a.put o.dst v') w') :
    wpList Tryz.prog ops Q (o :: rest) a w := by
  obtain ⟨i0, hi, hz0, hz1, hz2⟩ := info_parts info_Pair
  have hm := hr.len_cap.1
  exact wpList_appAll w hgd s x 33 ho base 81 i0 _ 2 16 Tryz.underlying33 hi hz0 hz1 hz2 rfl (by omega) v _ _ hs hown bd B Pair.cells A m c ys hx hr hm (fun _ => rfl) one_Pair (by unfold maxLen; omega) (by omega) hbase
    (fun v' w' h1 h2 h3 => h v' w' (by rw [List.length_append, List.flatMap_append, ← hm]; exact h1) (grown_below hown h2 hbase) h2 h3)
/-- what an append to a growing list leaves -/
def AftZ_Pair (w0 : World) (B0 base : Nat) (v : Value) (xs : List Pair) (v' : Value) (w' : World) : Prop :=
  ownsZ w' B0 base 81 2 v' xs.length (xs.flatMap Pair.cells) ∧ Below base w0 w' ∧ (∀ b, v'.ownBlock = some b → v.ownBlock = some b ∨ w0.heap.size ≤ b) ∧ (∀ b, b < w0.heap.size → v.ownBlock ≠ some b → w'.heap[b]? = w0.heap[b]?)
theorem appZ_Pair {ops : Array Oper} {rest : List Oper} {o : Oper} {a : Act} {Q : Exit → Act → World → Prop} {w : World} (s x : Operand) (hgd : o.guard = none)
    (ho : o.op = .call { callee := .builtin .append, args := #[s, x], argTypes := #[33, 33] }) {B0 base bd B : Nat} {v : Value} {xs ys : List Pair} {A : Option Addr} {m c : Nat} (hs : a.eval s = v)
    (hx : a.eval x = .slice A m c) (hr : RL bd 2 (flat Pair.cells) w B (.slice A m c) ys) (hown : ownsZ w B0 base 81 2 v xs.length (xs.flatMap Pair.cells)) (hl : xs.length + ys.length ≤ 33554432) (hbase : base ≤ w.heap.size)
    (h : ∀ v' w', ownsZ w' B0 base 81 2 v' (xs ++ ys).length ((xs ++ ys).flatMap Pair.cells) → Below base w w' → (∀ b, v'.ownBlock = some b → v.ownBlock = some b ∨ w.heap.size ≤ b) → (∀ b, b < w.heap.size → v.ownBlock ≠ some b → w'.heap[b]? = w.heap[b]?) → wpList Tryz.prog ops Q rest (a.put o.dst v') w') :
    wpList Tryz.prog ops Q (o :: rest) a w := by
  obtain ⟨i0, hi, hz0, hz1, hz2⟩ := info_parts info_Pair
  have hm := hr.len_cap.1
  obtain ⟨v', w', hrun, h2, h3, _, h4, h5⟩ := run_appZ (P := Tryz.prog) w B0 base 33 o.type 81 i0 _ 2 16 Tryz.underlying33 hi hz0 hz1 hz2 rfl (by omega) v _ _ hown bd B Pair.cells A m c ys hr (fun _ => rfl) one_Pair (by unfold maxLen; omega) (by omega) hbase
  refine wpList_plain hgd fun _ hK => ?_
  unfold Oper.wp execOp
  simp only [ho, resolve, invoke, builtin, Sem.run_bind, Sem.run_pure, Result.andThen_ok, List.map_toArray, List.map_cons, List.map_nil, hs, hx, hrun]
  exact hK _ _ (h v' w' (by rw [List.length_append, List.flatMap_append, ← hm]; exact h2) h3 h4 h5)
theorem appZ1_Pair {ops : Array Oper} {rest : List Oper} {o : Oper} {a : Act} {Q : Exit → Act → World → Prop} {w0 : World} (s x : Operand) (hgd : o.guard = none)
    (ho : o.op = .call { callee := .builtin .append, args := #[s, x], argTypes := #[33, 33] }) {B0 base : Nat} {v : Value} {xs : List Pair} (y : Pair) {news : Array Value} {N : Nat} (hs : a.eval s = v)
    (hx : a.eval x = .slice (some ⟨N, 0, none⟩) 1 1) (hN : N = w0.heap.size) (hy : news = (Pair.cells y).toArray) (hown : ownsZ w0 B0 base 81 2 v xs.length (xs.flatMap Pair.cells)) (hl : xs.length < 16777216) (hbase : base ≤ w0.heap.size)
    (h : ∀ v' w', ownsZ w' B0 base 81 2 v' (xs ++ [y]).length ((xs ++ [y]).flatMap Pair.cells) → Below base w0 w' → (∀ b, v'.ownBlock = some b → v.ownBlock = some b ∨ w0.heap.size ≤ b) → (∀ b, b < w0.heap.size → v.ownBlock ≠ some b → w'.heap[b]? = w0.heap[b]?) → wpList Tryz.prog ops Q rest (a.put o.dst v') w') :
    wpList Tryz.prog ops Q (o :: rest) a (w0.alloc (.cells news 81)) := by
  subst hN
  subst hy
  have hr : RL 1 2 (flat Pair.cells) (w0.alloc (.cells (Pair.cells y).toArray 81)) (w0.heap.size + 1) (.slice (some ⟨w0.heap.size, 0, none⟩) 1 1) [y] := by
    refine ⟨_, 1, rfl, ⟨Nat.le_refl _, Nat.le_refl _⟩, fun _ => ⟨_, 0, rfl, Nat.lt_succ_self _, fun i x hx => ?_⟩⟩
    have hi : i = 0 := by rcases i with _ | i <;> simp at hx; rfl
    subst hi
    simp at hx
    subst hx
    refine ⟨_, rfl, rfl, fun j u hu => ?_⟩
    rw [cell_of_row _ _ _ _ _ (0, 0) (heap_alloc_new w0 _)]
    simpa using hu
  exact appZ_Pair s x hgd ho hs hx hr (hown.alloc _) (by simp; omega) (by simp; omega) (fun v' w' h1 h2 h3 h4 => h v' w' h1 (((Below.refl base w0).alloc hbase _).trans h2)
    (fun b hb => (h3 b hb).imp id (fun h => Nat.le_trans (by simp) h)) (fun b hb hne => (h4 b (by simp; omega) hne).trans (Below.heap_alloc _ _ _ hb)))
theorem one_Type : ∀ (y : GType), ∀ u ∈ GType.cells y, u.oneCell' = true := fun y u hu => by simp [GType.cells] at hu; rcases hu with rfl | rfl | rfl | rfl | rfl | rfl | rfl <;> rfl
theorem app_Type {ops : Array Oper} {rest : List Oper} {o : Oper} {a : Act} {Q : Exit → Act → World → Prop} {w0 : World} (s x : Operand) (hgd : o.guard = none)
    (ho : o.op = .call { callee := .builtin .append, args := #[s, x], argTypes := #[34, 34] }) {base : Nat} {v : Value} {xs : List GType} (y : GType) {news : Array Value} {N : Nat} (hs : a.eval s = v)
    (hx : a.eval x = .slice (some ⟨N, 0, none⟩) 1 1) (hN : N = w0.heap.size) (hy : news = (GType.cells y).toArray) (hown : w0.ownsRow base 67 7 v xs.length (xs.flatMap GType.cells)) (hl : xs.length < 16777216) (hbase : base ≤ w0.heap.size)
    (h : ∀ v' w', w'.ownsRow base 67 7 v' (xs ++ [y]).length ((xs ++ [y]).flatMap GType.cells) → Below base w0 w' → w0.grownBy w' v.ownBlock → (v'.ownBlock = v.ownBlock ∨ ∃ g, v'.ownBlock = some g ∧ w0.heap.size ≤ g) → wpList Tryz.prog ops Q rest (a.put o.dst v') w') :
    wpList Tryz.prog ops Q (o :: rest) a (w0.alloc (.cells news 67)) := by
  obtain ⟨i0, hi, hz0, hz1, hz2⟩ := info_parts info_Type
  subst hy
  exact wpList_app1 w0 hgd s x 34 ho base 67 i0 _ 7 56 Tryz.underlying34 hi hz0 hz1 hz2 rfl (by omega) v _ _ hs hown _ N hx hN rfl (fun u hu => one_Type y u (by simpa using hu)) (by unfold maxLen; omega) (by omega) hbase
    (fun v' w' h1 h2 h3 => h v' w' (by simpa using h1) (grown_below hown h2 hbase) h2 h3)
theorem appAll_Type {ops : Array Oper} {rest : List Oper} {o : Oper} {a : Act} {Q : Exit → Act → World → Prop} {w : World} (s x : Operand) (hgd : o.guard = none)
    (ho : o.op = .call { callee := .builtin .append, args := #[s, x], argTypes := #[34, 34] }) {base bd B : Nat} {v : Value} {xs ys : List GType} {A : Option Addr} {m c : Nat} (hs : a.eval s = v)
    (hx : a.eval x = .slice A m c) (hr : RL bd 7 (flat GType.cells) w B (.slice A m c) ys) (hown : w.ownsRow base 67 7 v xs.length (xs.flatMap GType.cells)) (hl : xs.length + ys.length ≤ 33554432) (hbase : base ≤ w.heap.size)
    (h : ∀ v' w', w'.ownsRow base 67 7 v' (xs ++ ys).length ((xs ++ ys).flatMap GType.cells) → Below base w w' → w.grownBy w' v.ownBlock → (v'.ownBlock = v.ownBlock ∨ v'.ownBlock = some w.heap.size) → wpList Tryz.prog ops Q rest (a.put o.dst v') w') :
    wpList Tryz.prog ops Q (o :: rest) a w := by
  obtain ⟨i0, hi, hz0, hz1, hz2⟩ := info_parts info_Type
  have hm := hr.len_cap.1
  exact wpList_appAll w hgd s x 34 ho base 67 i0 _ 7 56 Tryz.underlying34 hi hz0 hz1 hz2 rfl (by omega) v _ _ hs hown bd B GType.cells A m c ys hx hr hm (fun _ => rfl) one_Type (by unfold maxLen; omega) (by omega) hbase
    (fun v' w' h1 h2 h3 => h v' w' (by rw [List.length_append, List.flatMap_append, ← hm]; exact h1) (grown_below hown h2 hbase) h2 h3)
/-- what an append to a growing list leaves -/
def AftZ_Type (w0 : World) (B0 base : Nat) (v : Value) (xs : List GType) (v' : Value) (w' : World) : Prop :=
  ownsZ w' B0 base 67 7 v' xs.length (xs.flatMap GType.cells) ∧ Below base w0 w' ∧ (∀ b, v'.ownBlock = some b → v.ownBlock = some b ∨ w0.heap.size ≤ b) ∧ (∀ b, b < w0.heap.size → v.ownBlock ≠ some b → w'.heap[b]? = w0.heap[b]?)
theorem appZ_Type {ops : Array Oper} {rest : List Oper} {o : Oper} {a : Act} {Q : Exit → Act → World → Prop} {w : World} (s x : Operand) (hgd : o.guard = none)
    (ho : o.op = .call { callee := .builtin .append, args := #[s, x], argTypes := #[34, 34] }) {B0 base bd B : Nat} {v : Value} {xs ys : List GType} {A : Option Addr} {m c : Nat} (hs : a.eval s = v)
    (hx : a.eval x = .slice A m c) (hr : RL bd 7 (flat GType.cells) w B (.slice A m c) ys) (hown : ownsZ w B0 base 67 7 v xs.length (xs.flatMap GType.cells)) (hl : xs.length + ys.length ≤ 33554432) (hbase : base ≤ w.heap.size)
    (h : ∀ v' w', ownsZ w' B0 base 67 7 v' (xs ++ ys).length ((xs ++ ys).flatMap GType.cells) → Below base w w' → (∀ b, v'.ownBlock = some b → v.ownBlock = some b ∨ w.heap.size ≤ b) → (∀ b, b < w.heap.size → v.ownBlock ≠ some b → w'.heap[b]? = w.heap[b]?) → wpList Tryz.prog ops Q rest (a.put o.dst v') w') :
    wpList Tryz.prog ops Q (o :: rest) a w := by
  obtain ⟨i0, hi, hz0, hz1, hz2⟩ := info_parts info_Type
  have hm := hr.len_cap.1
  obtain ⟨v', w', hrun, h2, h3, _, h4, h5⟩ := run_appZ (P := Tryz.prog) w B0 base 34 o.type 67 i0 _ 7 56 Tryz.underlying34 hi hz0 hz1 hz2 rfl (by omega) v _ _ hown bd B GType.cells A m c ys hr (fun _ => rfl) one_Type (by unfold maxLen; omega) (by omega) hbase
  refine wpList_plain hgd fun _ hK => ?_
  unfold Oper.wp execOp
  simp only [ho, resolve, invoke, builtin, Sem.run_bind, Sem.run_pure, Result.andThen_ok, List.map_toArray, List.map_cons, List.map_nil, hs, hx, hrun]
  exact hK _ _ (h v' w' (by rw [List.length_append, List.flatMap_append, ← hm]; exact h2) h3 h4 h5)
theorem appZ1_Type {ops : Array Oper} {rest : List Oper} {o : Oper} {a : Act} {Q : Exit → Act → World → Prop} {w0 : World} (s x : Operand) (hgd : o.guard = none)
    (ho : o.op = .call { callee := .builtin .append, args := #[s, x], argTypes := #[34, 34] }) {B0 base : Nat} {v : Value} {xs : List GType} (y : GType) {news : Array Value} {N : Nat} (hs : a.eval s = v)
    (hx : a.eval x = .slice (some ⟨N, 0, none⟩) 1 1) (hN : N = w0.heap.size) (hy : news = (GType.cells y).toArray) (hown : ownsZ w0 B0 base 67 7 v xs.length (xs.flatMap GType.cells)) (hl : xs.length < 16777216) (hbase : base ≤ w0.heap.size)
    (h : ∀ v' w', ownsZ w' B0 base 67 7 v' (xs ++ [y]).length ((xs ++ [y]).flatMap GType.cells) → Below base w0 w' → (∀ b, v'.ownBlock = some b → v.ownBlock = some b ∨ w0.heap.size ≤ b) → (∀ b, b < w0.heap.size → v.ownBlock ≠ some b → w'.heap[b]? = w0.heap[b]?) → wpList Tryz.prog ops Q rest (a.put o.dst v') w') :
    wpList Tryz.prog ops Q (o :: rest) a (w0.alloc (.cells news 67)) := by
  subst hN
  subst hy
  have hr : RL 1 7 (flat GType.cells) (w0.alloc (.cells (GType.cells y).toArray 67)) (w0.heap.size + 1) (.slice (some ⟨w0.heap.size, 0, none⟩) 1 1) [y] := by
    refine ⟨_, 1, rfl, ⟨Nat.le_refl _, Nat.le_refl _⟩, fun _ => ⟨_, 0, rfl, Nat.lt_succ_self _, fun i x hx => ?_⟩⟩
    have hi : i = 0 := by rcases i with _ | i <;> simp at hx; rfl
    subst hi
    simp at hx
    subst hx
    refine ⟨_, rfl, rfl, fun j u hu => ?_⟩
    rw [cell_of_row _ _ _ _ _ (0, 0) (heap_alloc_new w0 _)]
    simpa using hu
  exact appZ_Type s x hgd ho hs hx hr (hown.alloc _) (by simp; omega) (by simp; omega) (fun v' w' h1 h2 h3 h4 => h v' w' h1 (((Below.refl base w0).alloc hbase _).trans h2)
    (fun b hb => (h3 b hb).imp id (fun h => Nat.le_trans (by simp) h)) (fun b hb hne => (h4 b (by simp; omega) hne).trans (Below.heap_alloc _ _ _ hb)))
theorem one_Item : ∀ (y : Item), ∀ u ∈ Item.cells y, u.oneCell' = true := fun y u hu => by simp [Item.cells] at hu; rcases hu with rfl | rfl | rfl | rfl | rfl | rfl | rfl <;> rfl
theorem app_Item {ops : Array Oper} {rest : List Oper} {o : Oper} {a : Act} {Q : Exit → Act → World → Prop} {w0 : World} (s x : Operand) (hgd : o.guard = none)
    (ho : o.op = .call { callee := .builtin .append, args := #[s, x], argTypes := #[35, 35] }) {base : Nat} {v : Value} {xs : List Item} (y : Item) {news : Array Value} {N : Nat} (hs : a.eval s = v)
    (hx : a.eval x = .slice (some ⟨N, 0, none⟩) 1 1) (hN : N = w0.heap.size) (hy : news = (Item.cells y).toArray) (hown : w0.ownsRow base 41 7 v xs.length (xs.flatMap Item.cells)) (hl : xs.length < 16777216) (hbase : base ≤ w0.heap.size)
    (h : ∀ v' w', w'.ownsRow base 41 7 v' (xs ++ [y]).length ((xs ++ [y]).flatMap Item.cells) → Below base w0 w' → w0.grownBy w' v.ownBlock → (v'.ownBlock = v.ownBlock ∨ ∃ g, v'.ownBlock = some g ∧ w0.heap.size ≤ g) → wpList Tryz.prog ops Q rest (a.put o.dst v') w') :
    wpList Tryz.prog ops Q (o :: rest) a (w0.alloc (.cells news 41)) := by
  obtain ⟨i0, hi, hz0, hz1, hz2⟩ := info_parts info_Item
  subst hy
  exact wpList_app1 w0 hgd s x 35 ho base 41 i0 _ 7 56 Tryz.underlying35 hi hz0 hz1 hz2 rfl (by omega) v _ _ hs hown _ N hx hN rfl (fun u hu => one_Item y u (by simpa using hu)) (by unfold maxLen; omega) (by omega) hbase
    (fun v' w' h1 h2 h3 => h v' w' (by simpa using h1) (grown_below hown h2 hbase) h2 h3)
theorem appAll_Item {ops : Array Oper} {rest : List Oper} {o : Oper} {a : Act} {Q : Exit → Act → World → Prop} {w : World} (s x : Operand) (hgd : o.guard = none)
    (ho : o.op = .call { callee := .builtin .append, args := #[s, x], argTypes := #[35, 35] }) {base bd B : Nat} {v : Value} {xs ys : List Item} {A : Option Addr} {m c : Nat} (hs : a.eval s = v)
    (hx : a.eval x = .slice A m c) (hr : RL bd 7 (flat Item.cells) w B (.slice A m c) ys) (hown : w.ownsRow base 41 7 v xs.length (xs.flatMap Item.cells)) (hl : xs.length + ys.length ≤ 33554432) (hbase : base ≤ w.heap.size)
    (h : ∀ v' w', w'.ownsRow base 41 7 v' (xs ++ ys).length ((xs ++ ys).flatMap Item.cells) → Below base w w' → w.grownBy w' v.ownBlock → (v'.ownBlock = v.ownBlock ∨ v'.ownBlock = some w.heap.size) → wpList Tryz.prog ops Q rest (a.put o.dst v') w') :
    wpList Tryz.prog ops Q (o :: rest) a w := by
  obtain ⟨i0, hi, hz0, hz1, hz2⟩ := info_parts info_Item
  have hm := hr.len_cap.1
  exact wpList_appAll w hgd s x 35 ho base 41 i0 _ 7 56 Tryz.underlying35 hi hz0 hz1 hz2 rfl (by omega) v _ _ hs hown bd B Item.cells A m c ys hx hr hm (fun _ => rfl) one_Item (by unfold maxLen; omega) (by omega) hbase
    (fun v' w' h1 h2 h3 => h v' w' (by rw [List.length_append, List.flatMap_append, ← hm]; exact h1) (grown_below hown h2 hbase) h2 h3)
/-- what an append to a growing list leaves -/
def AftZ_Item (w0 : World) (B0 base : Nat) (v : Value) (xs : List Item) (v' : Value) (w' : World) : Prop :=
  ownsZ w' B0 base 41 7 v' xs.length (xs.flatMap Item.cells) ∧ Below base w0 w' ∧ (∀ b, v'.ownBlock = some b → v.ownBlock = some b ∨ w0.heap.size ≤ b) ∧ (∀ b, b < w0.heap.size → v.ownBlock ≠ some b → w'.heap[b]? = w0.heap[b]?)
theorem appZ_Item {ops : Array Oper} {rest : List Oper} {o : Oper} {a : Act} {Q : Exit → Act → World → Prop} {w : World} (s x : Operand) (hgd : o.guard = none)
    (ho : o.op = .call { callee := .builtin .append, args := #[s, x], argTypes := #[35, 35] }) {B0 base bd B : Nat} {v : Value} {xs ys : List Item} {A : Option Addr} {m c : Nat} (hs : a.eval s = v)
    (hx : a.eval x = .slice A m c) (hr : RL bd 7 (flat Item.cells) w B (.slice A m c) ys) (hown : ownsZ w B0 base 41 7 v xs.length (xs.flatMap Item.cells)) (hl : xs.length + ys.length ≤ 33554432) (hbase : base ≤ w.heap.size)
    (h : ∀ v' w', ownsZ w' B0 base 41 7 v' (xs ++ ys).length ((xs ++ ys).flatMap Item.cells) → Below base w w' → (∀ b, v'.ownBlock = some b → v.ownBlock = some b ∨ w.heap.size ≤ b) → (∀ b, b < w.heap.size → v.ownBlock ≠ some b → w'.heap[b]? = w.heap[b]?) → wpList Tryz.prog ops Q rest (a.put o.dst v') w') :
    wpList Tryz.prog ops Q (o :: rest) a w := by
  obtain ⟨i0, hi, hz0, hz1, hz2⟩ := info_parts info_Item
  have hm := hr.len_cap.1
  obtain ⟨v', w', hrun, h2, h3, _, h4, h5⟩ := run_appZ (P := Tryz.prog) w B0 base 35 o.type 41 i0 _ 7 56 Tryz.underlying35 hi hz0 hz1 hz2 rfl (by omega) v _ _ hown bd B Item.cells A m c ys hr (fun _ => rfl) one_Item (by unfold maxLen; omega) (by omega) hbase
  refine wpList_plain hgd fun _ hK => ?_
  unfold Oper.wp execOp
  simp only [ho, resolve, invoke, builtin, Sem.run_bind, Sem.run_pure, Result.andThen_ok, List.map_toArray, List.map_cons, List.map_nil, hs, hx, hrun]
  exact hK _ _ (h v' w' (by rw [List.length_append, List.flatMap_append, ← hm]; exact h2) h3 h4 h5)
theorem appZ1_Item {ops : Array Oper} {rest : List Oper} {o : Oper} {a : Act} {Q : Exit → Act → World → Prop} {w0 : World} (s x : Operand) (hgd : o.guard = none)
    (ho : o.op = .call { callee := .builtin .append, args := #[s, x], argTypes := #[35, 35] }) {B0 base : Nat} {v : Value} {xs : List Item} (y : Item) {news : Array Value} {N : Nat} (hs : a.eval s = v)
    (hx : a.eval x = .slice (some ⟨N, 0, none⟩) 1 1) (hN : N = w0.heap.size) (hy : news = (Item.cells y).toArray) (hown : ownsZ w0 B0 base 41 7 v xs.length (xs.flatMap Item.cells)) (hl : xs.length < 16777216) (hbase : base ≤ w0.heap.size)
    (h : ∀ v' w', ownsZ w' B0 base 41 7 v' (xs ++ [y]).length ((xs ++ [y]).flatMap Item.cells) → Below base w0 w' → (∀ b, v'.ownBlock = some b → v.ownBlock = some b ∨ w0.heap.size ≤ b) → (∀ b, b < w0.heap.size → v.ownBlock ≠ some b → w'.heap[b]? = w0.heap[b]?) → wpList Tryz.prog ops Q rest (a.put o.dst v') w') :
    wpList Tryz.prog ops Q (o :: rest) a (w0.alloc (.cells news 41)) := by
  subst hN
  subst hy
  have hr : RL 1 7 (flat Item.cells) (w0.alloc (.cells (Item.cells y).toArray 41)) (w0.heap.size + 1) (.slice (some ⟨w0.heap.size, 0, none⟩) 1 1) [y] := by
    refine ⟨_, 1, rfl, ⟨Nat.le_refl _, Nat.le_refl _⟩, fun _ => ⟨_, 0, rfl, Nat.lt_succ_self _, fun i x hx => ?_⟩⟩
    have hi : i = 0 := by rcases i with _ | i <;> simp at hx; rfl
    subst hi
    simp at hx
    subst hx
    refine ⟨_, rfl, rfl, fun j u hu => ?_⟩
    rw [cell_of_row _ _ _ _ _ (0, 0) (heap_alloc_new w0 _)]
    simpa using hu
  exact appZ_Item s x hgd ho hs hx hr (hown.alloc _) (by simp; omega) (by simp; omega) (fun v' w' h1 h2 h3 h4 => h v' w' h1 (((Below.refl base w0).alloc hbase _).trans h2)
    (fun b hb => (h3 b hb).imp id (fun h => Nat.le_trans (by simp) h)) (fun b hb hne => (h4 b (by simp; omega) hne).trans (Below.heap_alloc _ _ _ hb)))
end Go.Proofs.YteamlfcfillbjaaGreat
