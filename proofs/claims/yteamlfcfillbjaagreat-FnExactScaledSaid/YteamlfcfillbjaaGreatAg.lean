/-
  append at the element types of this program in the form 'a list of the walk's own, and its blocks'. Written by wip/agfam.py.
-/
import Derived.Test.YteamlfcfillbjaaGreatSj
namespace Go.Proofs.YteamlfcfillbjaaGreat
set_option linter.unusedVariables false
set_option linter.unusedSimpArgs false
set_option maxRecDepth 100000
open Go.RowKit

theorem wapp_Int {o : Oper} {a : Act} {K : Act → World → Prop} {Q : Exit → Act → World → Prop} {w : World} (s x : Operand)
    (ho : o.op = .call { callee := .builtin .append, args := #[s, x], argTypes := #[98, 98] }) {base bd B : Nat} {v : Value} {xs ys : List Int} {fp : List Nat} {A : Option Addr} {m c : Nat} (hs : a.eval s = v)
    (hx : a.eval x = .slice A m c) (hr : RL bd 1 (flat cI) w B (.slice A m c) ys) (hown : OF cI 3 1 w base v xs fp) (hl : xs.length + ys.length ≤ 33554432) (hbase : base ≤ w.heap.size)
    (h : ∀ v' w', AppOF cI 3 1 w base (xs ++ ys) fp v' w' → K (a.put o.dst v') w') : o.wp Tryz.prog a w K Q := by
  obtain ⟨i0, hi, hz0, hz1, hz2⟩ := info_parts info_int
  have hm := hr.len_cap.1
  exact wp_appAll w s x 98 ho base 3 i0 _ 1 8 Tryz.underlying98 hi hz0 hz1 hz2 rfl (by omega) v _ _ hs hown.1 bd B cI A m c ys hx hr hm (fun _ => rfl) one_Int (by unfold maxLen; omega) (by omega) hbase
    (fun v' w' h1 h2 h3 => h v' w' (OF.app_of_row (by rw [List.flatMap_append]; exact h1) (by rw [List.length_append, hm]) h2 h3 hown.2))
theorem pappAll_Int {ops : Array Oper} {rest : List Oper} {o : Oper} {a : Act} {Q : Exit → Act → World → Prop} {w : World} (s x : Operand) (hgd : o.guard = none)
    (ho : o.op = .call { callee := .builtin .append, args := #[s, x], argTypes := #[98, 98] }) {base bd B : Nat} {v : Value} {xs ys : List Int} {fp : List Nat} {A : Option Addr} {m c : Nat} (hs : a.eval s = v)
    (hx : a.eval x = .slice A m c) (hr : RL bd 1 (flat cI) w B (.slice A m c) ys) (hown : OF cI 3 1 w base v xs fp) (hl : xs.length + ys.length ≤ 33554432) (hbase : base ≤ w.heap.size)
    (h : ∀ v' w', AppOF cI 3 1 w base (xs ++ ys) fp v' w' → wpList Tryz.prog ops Q rest (a.put o.dst v') w') : wpList Tryz.prog ops Q (o :: rest) a w :=
  wpList_plain hgd fun _ hK => wapp_Int s x ho hs hx hr hown hl hbase fun v' w' ha => hK _ _ (h v' w' ha)
theorem sappAll_Int {ops : Array Oper} {o : Oper} {a : Act} {K : Act → World → Prop} {Q : Exit → Act → World → Prop} {E : Prop} {w : World} (s x : Operand) (hgd : o.guard = none)
    (ho : o.op = .call { callee := .builtin .append, args := #[s, x], argTypes := #[98, 98] }) {base bd B : Nat} {v : Value} {xs ys : List Int} {fp : List Nat} {A : Option Addr} {m c : Nat} (hs : a.eval s = v)
    (hx : a.eval x = .slice A m c) (hr : RL bd 1 (flat cI) w B (.slice A m c) ys) (hown : OF cI 3 1 w base v xs fp) (hl : xs.length + ys.length ≤ 33554432) (hbase : base ≤ w.heap.size)
    (h : ∀ v' w', AppOF cI 3 1 w base (xs ++ ys) fp v' w' → K (a.put o.dst v') w') : if Region.wanted o (yielded ops a.tmps) = true then Oper.wp Tryz.prog o a w K Q else E := by
  have hw : Region.wanted o (yielded ops a.tmps) = true := by simp [Region.wanted, hgd]
  rw [if_pos hw]
  exact wapp_Int s x ho hs hx hr hown hl hbase h
theorem papp_Int {ops : Array Oper} {rest : List Oper} {o : Oper} {a : Act} {Q : Exit → Act → World → Prop} {w : World} (s x : Operand) (hgd : o.guard = none)
    (ho : o.op = .call { callee := .builtin .append, args := #[s, x], argTypes := #[98, 98] }) {base : Nat} {v : Value} {xs : List Int} {fp : List Nat} (y : Int) {news : Array Value} {N : Nat} (hs : a.eval s = v)
    (hx : a.eval x = .slice (some ⟨N, 0, none⟩) 1 1) (hN : w.heap[N]? = some (.cells news 3 (0, 0))) (hy : news = (cI y).toArray) (hown : OF cI 3 1 w base v xs fp) (hl : xs.length < 16777216) (hbase : base ≤ w.heap.size)
    (h : ∀ v' w', AppOF cI 3 1 w base (xs ++ [y]) fp v' w' → wpList Tryz.prog ops Q rest (a.put o.dst v') w') : wpList Tryz.prog ops Q (o :: rest) a w :=
  pappAll_Int s x hgd ho hs hx (RL_one1 hN hy rfl (Nat.lt_succ_self N)) hown (by simp; omega) hbase h
theorem sapp_Int {ops : Array Oper} {o : Oper} {a : Act} {K : Act → World → Prop} {Q : Exit → Act → World → Prop} {E : Prop} {w : World} (s x : Operand) (hgd : o.guard = none)
    (ho : o.op = .call { callee := .builtin .append, args := #[s, x], argTypes := #[98, 98] }) {base : Nat} {v : Value} {xs : List Int} {fp : List Nat} (y : Int) {news : Array Value} {N : Nat} (hs : a.eval s = v)
    (hx : a.eval x = .slice (some ⟨N, 0, none⟩) 1 1) (hN : w.heap[N]? = some (.cells news 3 (0, 0))) (hy : news = (cI y).toArray) (hown : OF cI 3 1 w base v xs fp) (hl : xs.length < 16777216) (hbase : base ≤ w.heap.size)
    (h : ∀ v' w', AppOF cI 3 1 w base (xs ++ [y]) fp v' w' → K (a.put o.dst v') w') : if Region.wanted o (yielded ops a.tmps) = true then Oper.wp Tryz.prog o a w K Q else E :=
  sappAll_Int s x hgd ho hs hx (RL_one1 hN hy rfl (Nat.lt_succ_self N)) hown (by simp; omega) hbase h
theorem wapp_Pair {o : Oper} {a : Act} {K : Act → World → Prop} {Q : Exit → Act → World → Prop} {w : World} (s x : Operand)
    (ho : o.op = .call { callee := .builtin .append, args := #[s, x], argTypes := #[33, 33] }) {base bd B : Nat} {v : Value} {xs ys : List Pair} {fp : List Nat} {A : Option Addr} {m c : Nat} (hs : a.eval s = v)
    (hx : a.eval x = .slice A m c) (hr : RL bd 2 (flat Pair.cells) w B (.slice A m c) ys) (hown : OF Pair.cells 81 2 w base v xs fp) (hl : xs.length + ys.length ≤ 33554432) (hbase : base ≤ w.heap.size)
    (h : ∀ v' w', AppOF Pair.cells 81 2 w base (xs ++ ys) fp v' w' → K (a.put o.dst v') w') : o.wp Tryz.prog a w K Q := by
  obtain ⟨i0, hi, hz0, hz1, hz2⟩ := info_parts info_Pair
  have hm := hr.len_cap.1
  exact wp_appAll w s x 33 ho base 81 i0 _ 2 16 Tryz.underlying33 hi hz0 hz1 hz2 rfl (by omega) v _ _ hs hown.1 bd B Pair.cells A m c ys hx hr hm (fun _ => rfl) one_Pair (by unfold maxLen; omega) (by omega) hbase
    (fun v' w' h1 h2 h3 => h v' w' (OF.app_of_row (by rw [List.flatMap_append]; exact h1) (by rw [List.length_append, hm]) h2 h3 hown.2))
theorem pappAll_Pair {ops : Array Oper} {rest : List Oper} {o : Oper} {a : Act} {Q : Exit → Act → World → Prop} {w : World} (s x : Operand) (hgd : o.guard = none)
    (ho : o.op = .call { callee := .builtin .append, args := #[s, x], argTypes := #[33, 33] }) {base bd B : Nat} {v : Value} {xs ys : List Pair} {fp : List Nat} {A : Option Addr} {m c : Nat} (hs : a.eval s = v)
    (hx : a.eval x = .slice A m c) (hr : RL bd 2 (flat Pair.cells) w B (.slice A m c) ys) (hown : OF Pair.cells 81 2 w base v xs fp) (hl : xs.length + ys.length ≤ 33554432) (hbase : base ≤ w.heap.size)
    (h : ∀ v' w', AppOF Pair.cells 81 2 w base (xs ++ ys) fp v' w' → wpList Tryz.prog ops Q rest (a.put o.dst v') w') : wpList Tryz.prog ops Q (o :: rest) a w :=
  wpList_plain hgd fun _ hK => wapp_Pair s x ho hs hx hr hown hl hbase fun v' w' ha => hK _ _ (h v' w' ha)
theorem sappAll_Pair {ops : Array Oper} {o : Oper} {a : Act} {K : Act → World → Prop} {Q : Exit → Act → World → Prop} {E : Prop} {w : World} (s x : Operand) (hgd : o.guard = none)
    (ho : o.op = .call { callee := .builtin .append, args := #[s, x], argTypes := #[33, 33] }) {base bd B : Nat} {v : Value} {xs ys : List Pair} {fp : List Nat} {A : Option Addr} {m c : Nat} (hs : a.eval s = v)
    (hx : a.eval x = .slice A m c) (hr : RL bd 2 (flat Pair.cells) w B (.slice A m c) ys) (hown : OF Pair.cells 81 2 w base v xs fp) (hl : xs.length + ys.length ≤ 33554432) (hbase : base ≤ w.heap.size)
    (h : ∀ v' w', AppOF Pair.cells 81 2 w base (xs ++ ys) fp v' w' → K (a.put o.dst v') w') : if Region.wanted o (yielded ops a.tmps) = true then Oper.wp Tryz.prog o a w K Q else E := by
  have hw : Region.wanted o (yielded ops a.tmps) = true := by simp [Region.wanted, hgd]
  rw [if_pos hw]
  exact wapp_Pair s x ho hs hx hr hown hl hbase h
theorem papp_Pair {ops : Array Oper} {rest : List Oper} {o : Oper} {a : Act} {Q : Exit → Act → World → Prop} {w : World} (s x : Operand) (hgd : o.guard = none)
    (ho : o.op = .call { callee := .builtin .append, args := #[s, x], argTypes := #[33, 33] }) {base : Nat} {v : Value} {xs : List Pair} {fp : List Nat} (y : Pair) {news : Array Value} {N : Nat} (hs : a.eval s = v)
    (hx : a.eval x = .slice (some ⟨N, 0, none⟩) 1 1) (hN : w.heap[N]? = some (.cells news 81 (0, 0))) (hy : news = (Pair.cells y).toArray) (hown : OF Pair.cells 81 2 w base v xs fp) (hl : xs.length < 16777216) (hbase : base ≤ w.heap.size)
    (h : ∀ v' w', AppOF Pair.cells 81 2 w base (xs ++ [y]) fp v' w' → wpList Tryz.prog ops Q rest (a.put o.dst v') w') : wpList Tryz.prog ops Q (o :: rest) a w :=
  pappAll_Pair s x hgd ho hs hx (RL_one1 hN hy rfl (Nat.lt_succ_self N)) hown (by simp; omega) hbase h
theorem sapp_Pair {ops : Array Oper} {o : Oper} {a : Act} {K : Act → World → Prop} {Q : Exit → Act → World → Prop} {E : Prop} {w : World} (s x : Operand) (hgd : o.guard = none)
    (ho : o.op = .call { callee := .builtin .append, args := #[s, x], argTypes := #[33, 33] }) {base : Nat} {v : Value} {xs : List Pair} {fp : List Nat} (y : Pair) {news : Array Value} {N : Nat} (hs : a.eval s = v)
    (hx : a.eval x = .slice (some ⟨N, 0, none⟩) 1 1) (hN : w.heap[N]? = some (.cells news 81 (0, 0))) (hy : news = (Pair.cells y).toArray) (hown : OF Pair.cells 81 2 w base v xs fp) (hl : xs.length < 16777216) (hbase : base ≤ w.heap.size)
    (h : ∀ v' w', AppOF Pair.cells 81 2 w base (xs ++ [y]) fp v' w' → K (a.put o.dst v') w') : if Region.wanted o (yielded ops a.tmps) = true then Oper.wp Tryz.prog o a w K Q else E :=
  sappAll_Pair s x hgd ho hs hx (RL_one1 hN hy rfl (Nat.lt_succ_self N)) hown (by simp; omega) hbase h
theorem wapp_Type {o : Oper} {a : Act} {K : Act → World → Prop} {Q : Exit → Act → World → Prop} {w : World} (s x : Operand)
    (ho : o.op = .call { callee := .builtin .append, args := #[s, x], argTypes := #[34, 34] }) {base bd B : Nat} {v : Value} {xs ys : List GType} {fp : List Nat} {A : Option Addr} {m c : Nat} (hs : a.eval s = v)
    (hx : a.eval x = .slice A m c) (hr : RL bd 7 (flat GType.cells) w B (.slice A m c) ys) (hown : OF GType.cells 67 7 w base v xs fp) (hl : xs.length + ys.length ≤ 33554432) (hbase : base ≤ w.heap.size)
    (h : ∀ v' w', AppOF GType.cells 67 7 w base (xs ++ ys) fp v' w' → K (a.put o.dst v') w') : o.wp Tryz.prog a w K Q := by
  obtain ⟨i0, hi, hz0, hz1, hz2⟩ := info_parts info_Type
  have hm := hr.len_cap.1
  exact wp_appAll w s x 34 ho base 67 i0 _ 7 56 Tryz.underlying34 hi hz0 hz1 hz2 rfl (by omega) v _ _ hs hown.1 bd B GType.cells A m c ys hx hr hm (fun _ => rfl) one_Type (by unfold maxLen; omega) (by omega) hbase
    (fun v' w' h1 h2 h3 => h v' w' (OF.app_of_row (by rw [List.flatMap_append]; exact h1) (by rw [List.length_append, hm]) h2 h3 hown.2))
theorem pappAll_Type {ops : Array Oper} {rest : List Oper} {o : Oper} {a : Act} {Q : Exit → Act → World → Prop} {w : World} (s x : Operand) (hgd : o.guard = none)
    (ho : o.op = .call { callee := .builtin .append, args := #[s, x], argTypes := #[34, 34] }) {base bd B : Nat} {v : Value} {xs ys : List GType} {fp : List Nat} {A : Option Addr} {m c : Nat} (hs : a.eval s = v)
    (hx : a.eval x = .slice A m c) (hr : RL bd 7 (flat GType.cells) w B (.slice A m c) ys) (hown : OF GType.cells 67 7 w base v xs fp) (hl : xs.length + ys.length ≤ 33554432) (hbase : base ≤ w.heap.size)
    (h : ∀ v' w', AppOF GType.cells 67 7 w base (xs ++ ys) fp v' w' → wpList Tryz.prog ops Q rest (a.put o.dst v') w') : wpList Tryz.prog ops Q (o :: rest) a w :=
  wpList_plain hgd fun _ hK => wapp_Type s x ho hs hx hr hown hl hbase fun v' w' ha => hK _ _ (h v' w' ha)
theorem sappAll_Type {ops : Array Oper} {o : Oper} {a : Act} {K : Act → World → Prop} {Q : Exit → Act → World → Prop} {E : Prop} {w : World} (s x : Operand) (hgd : o.guard = none)
    (ho : o.op = .call { callee := .builtin .append, args := #[s, x], argTypes := #[34, 34] }) {base bd B : Nat} {v : Value} {xs ys : List GType} {fp : List Nat} {A : Option Addr} {m c : Nat} (hs : a.eval s = v)
    (hx : a.eval x = .slice A m c) (hr : RL bd 7 (flat GType.cells) w B (.slice A m c) ys) (hown : OF GType.cells 67 7 w base v xs fp) (hl : xs.length + ys.length ≤ 33554432) (hbase : base ≤ w.heap.size)
    (h : ∀ v' w', AppOF GType.cells 67 7 w base (xs ++ ys) fp v' w' → K (a.put o.dst v') w') : if Region.wanted o (yielded ops a.tmps) = true then Oper.wp Tryz.prog o a w K Q else E := by
  have hw : Region.wanted o (yielded ops a.tmps) = true := by simp [Region.wanted, hgd]
  rw [if_pos hw]
  exact wapp_Type s x ho hs hx hr hown hl hbase h
theorem papp_Type {ops : Array Oper} {rest : List Oper} {o : Oper} {a : Act} {Q : Exit → Act → World → Prop} {w : World} (s x : Operand) (hgd : o.guard = none)
    (ho : o.op = .call { callee := .builtin .append, args := #[s, x], argTypes := #[34, 34] }) {base : Nat} {v : Value} {xs : List GType} {fp : List Nat} (y : GType) {news : Array Value} {N : Nat} (hs : a.eval s = v)
    (hx : a.eval x = .slice (some ⟨N, 0, none⟩) 1 1) (hN : w.heap[N]? = some (.cells news 67 (0, 0))) (hy : news = (GType.cells y).toArray) (hown : OF GType.cells 67 7 w base v xs fp) (hl : xs.length < 16777216) (hbase : base ≤ w.heap.size)
    (h : ∀ v' w', AppOF GType.cells 67 7 w base (xs ++ [y]) fp v' w' → wpList Tryz.prog ops Q rest (a.put o.dst v') w') : wpList Tryz.prog ops Q (o :: rest) a w :=
  pappAll_Type s x hgd ho hs hx (RL_one1 hN hy rfl (Nat.lt_succ_self N)) hown (by simp; omega) hbase h
theorem sapp_Type {ops : Array Oper} {o : Oper} {a : Act} {K : Act → World → Prop} {Q : Exit → Act → World → Prop} {E : Prop} {w : World} (s x : Operand) (hgd : o.guard = none)
    (ho : o.op = .call { callee := .builtin .append, args := #[s, x], argTypes := #[34, 34] }) {base : Nat} {v : Value} {xs : List GType} {fp : List Nat} (y : GType) {news : Array Value} {N : Nat} (hs : a.eval s = v)
    (hx : a.eval x = .slice (some ⟨N, 0, none⟩) 1 1) (hN : w.heap[N]? = some (.cells news 67 (0, 0))) (hy : news = (GType.cells y).toArray) (hown : OF GType.cells 67 7 w base v xs fp) (hl : xs.length < 16777216) (hbase : base ≤ w.heap.size)
    (h : ∀ v' w', AppOF GType.cells 67 7 w base (xs ++ [y]) fp v' w' → K (a.put o.dst v') w') : if Region.wanted o (yielded ops a.tmps) = true then Oper.wp Tryz.prog o a w K Q else E :=
  sappAll_Type s x hgd ho hs hx (RL_one1 hN hy rfl (Nat.lt_succ_self N)) hown (by simp; omega) hbase h
theorem wapp_Item {o : Oper} {a : Act} {K : Act → World → Prop} {Q : Exit → Act → World → Prop} {w : World} (s x : Operand)
    (ho : o.op = .call { callee := .builtin .append, args := #[s, x], argTypes := #[35, 35] }) {base bd B : Nat} {v : Value} {xs ys : List Item} {fp : List Nat} {A : Option Addr} {m c : Nat} (hs : a.eval s = v)
    (hx : a.eval x = .slice A m c) (hr : RL bd 7 (flat Item.cells) w B (.slice A m c) ys) (hown : OF Item.cells 41 7 w base v xs fp) (hl : xs.length + ys.length ≤ 33554432) (hbase : base ≤ w.heap.size)
    (h : ∀ v' w', AppOF Item.cells 41 7 w base (xs ++ ys) fp v' w' → K (a.put o.dst v') w') : o.wp Tryz.prog a w K Q := by
  obtain ⟨i0, hi, hz0, hz1, hz2⟩ := info_parts info_Item
  have hm := hr.len_cap.1
  exact wp_appAll w s x 35 ho base 41 i0 _ 7 56 Tryz.underlying35 hi hz0 hz1 hz2 rfl (by omega) v _ _ hs hown.1 bd B Item.cells A m c ys hx hr hm (fun _ => rfl) one_Item (by unfold maxLen; omega) (by omega) hbase
    (fun v' w' h1 h2 h3 => h v' w' (OF.app_of_row (by rw [List.flatMap_append]; exact h1) (by rw [List.length_append, hm]) h2 h3 hown.2))
theorem pappAll_Item {ops : Array Oper} {rest : List Oper} {o : Oper} {a : Act} {Q : Exit → Act → World → Prop} {w : World} (s x : Operand) (hgd : o.guard = none)
    (ho : o.op = .call { callee := .builtin .append, args := #[s, x], argTypes := #[35, 35] }) {base bd B : Nat} {v : Value} {xs ys : List Item} {fp : List Nat} {A : Option Addr} {m c : Nat} (hs : a.eval s = v)
    (hx : a.eval x = .slice A m c) (hr : RL bd 7 (flat Item.cells) w B (.slice A m c) ys) (hown : OF Item.cells 41 7 w base v xs fp) (hl : xs.length + ys.length ≤ 33554432) (hbase : base ≤ w.heap.size)
    (h : ∀ v' w', AppOF Item.cells 41 7 w base (xs ++ ys) fp v' w' → wpList Tryz.prog ops Q rest (a.put o.dst v') w') : wpList Tryz.prog ops Q (o :: rest) a w :=
  wpList_plain hgd fun _ hK => wapp_Item s x ho hs hx hr hown hl hbase fun v' w' ha => hK _ _ (h v' w' ha)
theorem sappAll_Item {ops : Array Oper} {o : Oper} {a : Act} {K : Act → World → Prop} {Q : Exit → Act → World → Prop} {E : Prop} {w : World} (s x : Operand) (hgd : o.guard = none)
    (ho : o.op = .call { callee := .builtin .append, args := #[s, x], argTypes := #[35, 35] }) {base bd B : Nat} {v : Value} {xs ys : List Item} {fp : List Nat} {A : Option Addr} {m c : Nat} (hs : a.eval s = v)
    (hx : a.eval x = .slice A m c) (hr : RL bd 7 (flat Item.cells) w B (.slice A m c) ys) (hown : OF Item.cells 41 7 w base v xs fp) (hl : xs.length + ys.length ≤ 33554432) (hbase : base ≤ w.heap.size)
    (h : ∀ v' w', AppOF Item.cells 41 7 w base (xs ++ ys) fp v' w' → K (a.put o.dst v') w') : if Region.wanted o (yielded ops a.tmps) = true then Oper.wp Tryz.prog o a w K Q else E := by
  have hw : Region.wanted o (yielded ops a.tmps) = true := by simp [Region.wanted, hgd]
  rw [if_pos hw]
  exact wapp_Item s x ho hs hx hr hown hl hbase h
theorem papp_Item {ops : Array Oper} {rest : List Oper} {o : Oper} {a : Act} {Q : Exit → Act → World → Prop} {w : World} (s x : Operand) (hgd : o.guard = none)
    (ho : o.op = .call { callee := .builtin .append, args := #[s, x], argTypes := #[35, 35] }) {base : Nat} {v : Value} {xs : List Item} {fp : List Nat} (y : Item) {news : Array Value} {N : Nat} (hs : a.eval s = v)
    (hx : a.eval x = .slice (some ⟨N, 0, none⟩) 1 1) (hN : w.heap[N]? = some (.cells news 41 (0, 0))) (hy : news = (Item.cells y).toArray) (hown : OF Item.cells 41 7 w base v xs fp) (hl : xs.length < 16777216) (hbase : base ≤ w.heap.size)
    (h : ∀ v' w', AppOF Item.cells 41 7 w base (xs ++ [y]) fp v' w' → wpList Tryz.prog ops Q rest (a.put o.dst v') w') : wpList Tryz.prog ops Q (o :: rest) a w :=
  pappAll_Item s x hgd ho hs hx (RL_one1 hN hy rfl (Nat.lt_succ_self N)) hown (by simp; omega) hbase h
theorem sapp_Item {ops : Array Oper} {o : Oper} {a : Act} {K : Act → World → Prop} {Q : Exit → Act → World → Prop} {E : Prop} {w : World} (s x : Operand) (hgd : o.guard = none)
    (ho : o.op = .call { callee := .builtin .append, args := #[s, x], argTypes := #[35, 35] }) {base : Nat} {v : Value} {xs : List Item} {fp : List Nat} (y : Item) {news : Array Value} {N : Nat} (hs : a.eval s = v)
    (hx : a.eval x = .slice (some ⟨N, 0, none⟩) 1 1) (hN : w.heap[N]? = some (.cells news 41 (0, 0))) (hy : news = (Item.cells y).toArray) (hown : OF Item.cells 41 7 w base v xs fp) (hl : xs.length < 16777216) (hbase : base ≤ w.heap.size)
    (h : ∀ v' w', AppOF Item.cells 41 7 w base (xs ++ [y]) fp v' w' → K (a.put o.dst v') w') : if Region.wanted o (yielded ops a.tmps) = true then Oper.wp Tryz.prog o a w K Q else E :=
  sappAll_Item s x hgd ho hs hx (RL_one1 hN hy rfl (Nat.lt_succ_self N)) hown (by simp; omega) hbase h
end Go.Proofs.YteamlfcfillbjaaGreat
