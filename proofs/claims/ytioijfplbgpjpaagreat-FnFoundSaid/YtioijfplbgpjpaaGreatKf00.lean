/-
  Words and walks that these laws need beyond the others': see each theorem.
-/
import Derived.Test.YtioijfplbgpjpaaGreatKu00
import Derived.Test.YtioijfplbgpjpaaGreatKu01
import Derived.Test.YtioijfplbgpjpaaGreatKu02
import Derived.Test.YtioijfplbgpjpaaGreatKu43
import Derived.Test.YtioijfplbgpjpaaGreatKu03
import Derived.Test.YtioijfplbgpjpaaGreatKu04
import Derived.Test.YtioijfplbgpjpaaGreatKu05
import Derived.Test.YtioijfplbgpjpaaGreatKu06
import Derived.Test.YtioijfplbgpjpaaGreatKu07
import Derived.Test.YtioijfplbgpjpaaGreatKu08
import Derived.Test.YtioijfplbgpjpaaGreatKu09
import Derived.Test.YtioijfplbgpjpaaGreatKu10
import Derived.Test.YtioijfplbgpjpaaGreatKu11
import Derived.Test.YtioijfplbgpjpaaGreatKu12
import Derived.Test.YtioijfplbgpjpaaGreatKu13
import Derived.Test.YtioijfplbgpjpaaGreatKu14
import Derived.Test.YtioijfplbgpjpaaGreatKu15
import Derived.Test.YtioijfplbgpjpaaGreatKu16
import Derived.Test.YtioijfplbgpjpaaGreatKu17
import Derived.Test.YtioijfplbgpjpaaGreatKu18
import Derived.Test.YtioijfplbgpjpaaGreatKu19
import Derived.Test.YtioijfplbgpjpaaGreatKu20
import Derived.Test.YtioijfplbgpjpaaGreatKu22
import Derived.Test.YtioijfplbgpjpaaGreatKu24
import Derived.Test.YtioijfplbgpjpaaGreatKu25
import Derived.Test.YtioijfplbgpjpaaGreatKu26
import Derived.Test.YtioijfplbgpjpaaGreatKu29
import Derived.Test.YtioijfplbgpjpaaGreatKu27
import Derived.Test.YtioijfplbgpjpaaGreatKu28
import Derived.Test.YtioijfplbgpjpaaGreatKu23
import Derived.Test.YtioijfplbgpjpaaGreatKu21
import Derived.Test.YtioijfplbgpjpaaGreatKu32
import Derived.WalkKit
import Derived.WalkSpells
import Derived.WalkLawsBesides
import Derived.BigQuiet
import Derived.Deep.QuietTactic
import Derived.IntWalk
import Derived.Lib.Hide
import Derived.Laws.OwnMore
import Derived.Deep.Draws
import Derived.Deep.RegionHeld3
import Derived.Maps.AppendAt
import Derived.Deep.AppendLies
import Derived.RegionTactic
import Derived.OwnWalk
import Derived.ProofKit
import Derived.OpenShut
import Derived.ShutString
import Derived.WideKeyArgs
import Derived.Carry
import Derived.Deep.Slices
import Derived.Deep.Fields
import Derived.Deep.Strs
import Derived.ChangeSame
import Derived.Deep.Light
import Derived.Laws.StructEq
import Derived.Sort.OwnSortedInts
import Derived.StillTail
import Derived.Deep.RegionHeld
import Derived.Deep.RegionLaw
import Derived.Deep.DeepCutAuto
import Derived.Deep.RegionWith
import Derived.StillTailTactics
import Derived.Deep.CutBlock
import Derived.Laws.CopyOwn
import Derived.Laws.IdiomStrings
import Derived.Lib.ItoaLen
import Derived.Lib.SmallJoins
import Derived.Laws.BytesString
namespace Go.Proofs.YtioijfplbgpjpaaGreat
set_option linter.unusedVariables false
set_option linter.unusedSimpArgs false
set_option maxRecDepth 100000
open Go.RowKit
section
variable {α:Type} {bd k:Nat} {R:World→Nat→List Value→α→Prop} {w w':World} {B B':Nat} {v:Value} {xs:List α}
end
theorem wp_region_ext {P:Program} {id:Nat} {Q:Exit→Act→World→Prop} {a:Act} {w:World} {l:List Oper} (B:Nat) (hm:P.follows .mixedOrders=true) (hB:Region.lexB .any l.toArray=true)
  (h:wpQuiet P l.toArray (fun w'=>∃ x:Ext B w,w'=x.world) (fun a'=>∀ w',(∃ x:Ext B w,w'=x.world)→Q .normal a' w') l a):(Code.region id l.toArray true).wp P Q a w :=
 wp_region_quiet (C:=fun w'=>∃ x:Ext B w,w'=x.world) hm hB ⟨⟨w.drew,(Below.refl B w).drew⟩,rfl⟩ (by simpa using h)
end Go.Proofs.YtioijfplbgpjpaaGreat
namespace Go.Proofs.YtioijfplbgpjpaaGreat
set_option linter.unusedVariables false
set_option linter.unusedSimpArgs false
set_option maxRecDepth 100000
open Go.RowKit
section
variable {α:Type} {e K:Nat} {E:World→List Value→α→List Nat→Prop} {w w':World} {base:Nat} {v:Value} {xs:List α} {fp:List Nat} {k:Nat} {cs:List Value}
end
end Go.Proofs.YtioijfplbgpjpaaGreat
namespace Go.Proofs.YtioijfplbgpjpaaGreat
set_option linter.unusedVariables false
set_option linter.unusedSimpArgs false
set_option maxRecDepth 100000
open Go.RowKit
end Go.Proofs.YtioijfplbgpjpaaGreat
namespace Go.Proofs.YtioijfplbgpjpaaGreat
set_option linter.unusedVariables false
set_option linter.unusedSimpArgs false
set_option maxRecDepth 100000
open Go.RowKit
end Go.Proofs.YtioijfplbgpjpaaGreat
namespace Go.Proofs.YtioijfplbgpjpaaGreat
set_option linter.unusedVariables false
set_option linter.unusedSimpArgs false
set_option maxRecDepth 100000
open Go.RowKit
end Go.Proofs.YtioijfplbgpjpaaGreat
namespace Go.Proofs.YtioijfplbgpjpaaGreat
set_option linter.unusedVariables false
set_option linter.unusedSimpArgs false
set_option maxRecDepth 100000
open Go.RowKit
end Go.Proofs.YtioijfplbgpjpaaGreat
namespace Go.Proofs.YtioijfplbgpjpaaGreat
set_option linter.unusedVariables false
set_option linter.unusedSimpArgs false
set_option maxRecDepth 100000
open Go.RowKit
section
variable {w W:World} {B:Nat}
end
end Go.Proofs.YtioijfplbgpjpaaGreat
namespace Go.Proofs.YtioijfplbgpjpaaGreat
set_option linter.unusedVariables false
set_option linter.unusedSimpArgs false
set_option maxRecDepth 100000
theorem sortI_filter (p:Int→Bool) (xs:List Int):sortI (xs.filter p)=(sortI xs).filter p :=
 sortI_of ((sortI_perm xs).filter p) ((sortI_sorted xs).filter p)
end Go.Proofs.YtioijfplbgpjpaaGreat
namespace Go.Proofs.YtioijfplbgpjpaaGreat
set_option linter.unusedVariables false
set_option linter.unusedSimpArgs false
set_option maxRecDepth 100000
open Go.RowKit
end Go.Proofs.YtioijfplbgpjpaaGreat
namespace Go.Proofs.YtioijfplbgpjpaaGreat
set_option linter.unusedVariables false
set_option linter.unusedSimpArgs false
set_option maxRecDepth 100000
open Go.RowKit
section
variable {α β:Type}
end
section
variable {α β:Type}
end
end Go.Proofs.YtioijfplbgpjpaaGreat
namespace Go.Proofs.YtioijfplbgpjpaaGreat
set_option linter.unusedVariables false
set_option linter.unusedSimpArgs false
set_option maxRecDepth 100000
open Go.RowKit
section
set_option linter.unusedSectionVars false
variable {α:Type} [Inhabited α] {P:α→Prop} {xs:List α} {x:α}
end
end Go.Proofs.YtioijfplbgpjpaaGreat
namespace Go.Proofs.YtioijfplbgpjpaaGreat
set_option linter.unusedVariables false
set_option linter.unusedSimpArgs false
set_option maxRecDepth 100000
open Go.RowKit
variable {r:Request}
end Go.Proofs.YtioijfplbgpjpaaGreat
namespace Go.Proofs.YtioijfplbgpjpaaGreat
set_option linter.unusedVariables false
set_option linter.unusedSimpArgs false
set_option maxRecDepth 100000
open Go.RowKit
end Go.Proofs.YtioijfplbgpjpaaGreat
namespace Go.Proofs.YtioijfplbgpjpaaGreat
set_option linter.unusedVariables false
set_option linter.unusedSimpArgs false
set_option maxRecDepth 100000
open Go.RowKit
section
variable {P:Program}
end
end Go.Proofs.YtioijfplbgpjpaaGreat
namespace Go.Proofs.YtioijfplbgpjpaaGreat
set_option linter.unusedVariables false
set_option linter.unusedSimpArgs false
set_option maxRecDepth 100000
open Go.RowKit
section
variable {P:Program}
end
section
variable {w w':World} {B0 base e K n:Nat} {v:Value} {xs:List Value}
theorem ownsZ_start {g:Nat} (h1:B0≤g) (h2:g < base) (h3:w.heap[g]? = some (.cells #[] e (0,0))):ownsZ w B0 base e K (.slice (some ⟨g,0,none⟩) 0 0) 0 []:=.inl ⟨g,rfl,rfl,rfl,h1,h2,h3⟩
end
section
variable {P:Program}
theorem run_appZ (w:World) {α:Type} (B0 base:Nat) (t ty e:TypeId) (i:TypeInfo) (z:Value) (size bytes:Nat) (ht:P.underlying t=some (.slice e)) (hi:P.info? e=some i) (hz:i.zero=some z)
  (hsize:i.size=size) (hby:i.bytes=bytes) (hzs:z.cells.size=size) (hsz:0 < size)
  (v:Value) (n:Nat) (xs:List Value) (hown:ownsZ w B0 base e size v n xs)
  (bd B:Nat) (f:α→List Value) (A:Option Addr) (m c:Nat) (ys:List α) (hr:RL bd size (flat f) w B (.slice A m c) ys) (hf:∀ y,(f y).length=size) (h1:∀ y,∀ u∈f y,u.oneCell'=true)
  (h63:n + m≤maxLen) (hbytes:(n + m) * bytes≤140737488355328) (hbase:base≤w.heap.size) :
  ∃ v' w',(Builtin.append_ #[t,t] ty #[v,.slice A m c]).run P w=.ok v' w'∧ownsZ w' B0 base e size v' (n + m) (xs ++ ys.flatMap f)∧Below base w w'∧w.heap.size≤w'.heap.size∧(∀ b,v'.ownBlock=some b→v.ownBlock=some b ∨ w.heap.size≤b)∧(∀ b,b < w.heap.size→v.ownBlock ≠ some b→w'.heap[b]? = w.heap[b]?):=by
 have hm:=hr.len_cap.1
 rcases hown with ⟨g,rfl,rfl,rfl,hg1,hg2,hg3⟩ | hown
 ·rcases Nat.eq_zero_or_pos ys.length with h0 | h0
  ·have hy:ys=[]:=List.eq_nil_of_length_eq_zero h0
   subst hy
   subst hm
   refine ⟨_,w,?_,.inl ⟨g,rfl,by simp,by simp,hg1,hg2,hg3⟩,Below.refl _ _,Nat.le_refl _,fun b hb=>.inl hb,fun _ _ _=>rfl⟩
   rcases A with _ | ad <;> simp [Builtin.append_,run_underlying ht,sizeOf,typeInfo,hi,Builtin.lenOf,Builtin.firstCells,storeCells,loadCells,loadCellsFrom]
  ·obtain ⟨b,off,rfl,_,hc⟩:=hr.cells hf h0
   subst hm
   subst hsize
   subst hby
   have hrun:=run_append_grow (P:=P) w t ty e i z ht hi hz ⟨g,0,none⟩ 0 0 [] (by simp) (by simp) ⟨b,off,none⟩ ys.length c (ys.flatMap f) (flatMap_len hf ys) (fun j u hu=>by rw [addr_add];exact hc j u hu) (by omega) (by unfold maxLen at h63;omega) (growslice_fits (by omega) hbytes)
   have hge:=grownCap_ge w (0 + ys.length) 0 e
   have hcm:grownCap w (0 + ys.length) 0 e≤maxLen:=grownCap_le_maxLen w (0 + ys.length) 0 e h63
   refine ⟨_,_,hrun,.inr ⟨by simp [flatMap_len hf],.inr ⟨w.heap.size,_,_,rfl,hbase,heap_alloc_new w.drew _,hge,hcm,?_,?_⟩⟩,((Below.refl _ _).drew).alloc (by simpa using hbase) _,by simp,fun b hb=>.inr (by simp [Value.ownBlock] at hb;omega),fun b hb _=>Below.heap_alloc w.drew _ b hb⟩
   ·simp only [Array.size_append,List.size_toArray,size_zeroCells,hzs,List.length_nil,flatMap_len hf]
    have hS:∀ cap,0 + ys.length≤cap→0 + ys.length * i.size + (cap - (0 + ys.length)) * i.size=cap * i.size:=by
     intro cap h
     rw [Nat.zero_add,← Nat.add_mul]
     congr 1
     omega
    exact hS _ hge
   ·simp only [Array.toList_append,List.nil_append,Nat.zero_add]
    rw [← flatMap_len hf]
    exact List.take_left
 ·obtain ⟨v',w',hrun,h2,h3,h4⟩:=run_appAll (P:=P) w base t ty e i z size bytes ht hi hz hsize hby hzs hsz v n xs hown bd B f A m c ys hr hm hf h1 h63 hbytes hbase
  refine ⟨v',w',hrun,.inr h2,below_grown (Below.refl _ _) hown h3 hbase,h3.size,fun b hb=>?_,fun b hb hne=>h3.block b hb (fun e=>hne e.symm)⟩
  rcases h4 with h4 | h4
  ·exact .inl (h4 ▸ hb)
  ·rw [h4] at hb;cases hb;exact .inr (Nat.le_refl _)
end
end Go.Proofs.YtioijfplbgpjpaaGreat
namespace Go.Proofs.YtioijfplbgpjpaaGreat
set_option linter.unusedVariables false
set_option linter.unusedSimpArgs false
set_option maxRecDepth 100000
open Go.RowKit
theorem appZ_Int {ops:Array Oper} {rest:List Oper} {o:Oper} {a:Act} {Q:Exit→Act→World→Prop} {w:World} (s x:Operand) (hgd:o.guard=none)
  (ho:o.op=.call { callee:=.builtin .append,args:=#[s,x],argTypes:=#[53,53] }) {B0 base bd B:Nat} {v:Value} {xs ys:List Int} {A:Option Addr} {m c:Nat} (hs:a.eval s=v)
  (hx:a.eval x=.slice A m c) (hr:RL bd 1 (flat cI) w B (.slice A m c) ys) (hown:ownsZ w B0 base 3 1 v xs.length (xs.flatMap cI)) (hl:xs.length + ys.length≤33554432) (hbase:base≤w.heap.size)
  (h:∀ v' w',ownsZ w' B0 base 3 1 v' (xs ++ ys).length ((xs ++ ys).flatMap cI)→Below base w w'→(∀ b,v'.ownBlock=some b→v.ownBlock=some b ∨ w.heap.size≤b)→(∀ b,b < w.heap.size→v.ownBlock ≠ some b→w'.heap[b]? = w.heap[b]?)→wpList Tryz.prog ops Q rest (a.put o.dst v') w') :
  wpList Tryz.prog ops Q (o::rest) a w:=by
 obtain ⟨i0,hi,hz0,hz1,hz2⟩:=info_parts info_int
 have hm:=hr.len_cap.1
 obtain ⟨v',w',hrun,h2,h3,_,h4,h5⟩:=run_appZ (P:=Tryz.prog) w B0 base 53 o.type 3 i0 _ 1 8 Tryz.underlying53 hi hz0 hz1 hz2 rfl (by omega) v _ _ hown bd B cI A m c ys hr (fun _=>rfl) one_Int (by unfold maxLen;omega) (by omega) hbase
 refine wpList_plain hgd fun _ hK=>?_
 unfold Oper.wp execOp
 simp only [ho,resolve,invoke,builtin,Sem.run_bind,Sem.run_pure,Result.andThen_ok,List.map_toArray,List.map_cons,List.map_nil,hs,hx,hrun]
 exact hK _ _ (h v' w' (by rw [List.length_append,List.flatMap_append,← hm];exact h2) h3 h4 h5)
theorem appZ1_Int {ops:Array Oper} {rest:List Oper} {o:Oper} {a:Act} {Q:Exit→Act→World→Prop} {w0:World} (s x:Operand) (hgd:o.guard=none)
  (ho:o.op=.call { callee:=.builtin .append,args:=#[s,x],argTypes:=#[53,53] }) {B0 base:Nat} {v:Value} {xs:List Int} (y:Int) {news:Array Value} {N:Nat} (hs:a.eval s=v)
  (hx:a.eval x=.slice (some ⟨N,0,none⟩) 1 1) (hN:N=w0.heap.size) (hy:news=(cI y).toArray) (hown:ownsZ w0 B0 base 3 1 v xs.length (xs.flatMap cI)) (hl:xs.length < 16777216) (hbase:base≤w0.heap.size)
  (h:∀ v' w',ownsZ w' B0 base 3 1 v' (xs ++ [y]).length ((xs ++ [y]).flatMap cI)→Below base w0 w'→(∀ b,v'.ownBlock=some b→v.ownBlock=some b ∨ w0.heap.size≤b)→(∀ b,b < w0.heap.size→v.ownBlock ≠ some b→w'.heap[b]? = w0.heap[b]?)→wpList Tryz.prog ops Q rest (a.put o.dst v') w') :
  wpList Tryz.prog ops Q (o::rest) a (w0.alloc (.cells news 3)):=by
 subst hN
 subst hy
 have hr:RL 1 1 (flat cI) (w0.alloc (.cells (cI y).toArray 3)) (w0.heap.size + 1) (.slice (some ⟨w0.heap.size,0,none⟩) 1 1) [y]:=by
  refine ⟨_,1,rfl,⟨Nat.le_refl _,Nat.le_refl _⟩,fun _=>⟨_,0,rfl,Nat.lt_succ_self _,fun i x hx=>?_⟩⟩
  have hi:i=0:=by rcases i with _ | i <;> simp at hx;rfl
  subst hi
  simp at hx
  subst hx
  refine ⟨_,rfl,rfl,fun j u hu=>?_⟩
  rw [cell_of_row _ _ _ _ _ (0,0) (heap_alloc_new w0 _)]
  simpa using hu
 exact appZ_Int s x hgd ho hs hx hr (hown.alloc _) (by simp;omega) (by simp;omega) (fun v' w' h1 h2 h3 h4=>h v' w' h1 (((Below.refl base w0).alloc hbase _).trans h2)
  (fun b hb=>(h3 b hb).imp id (fun h=>Nat.le_trans (by simp) h)) (fun b hb hne=>(h4 b (by simp;omega) hne).trans (Below.heap_alloc _ _ _ hb)))
end Go.Proofs.YtioijfplbgpjpaaGreat
namespace Go.Proofs.YtioijfplbgpjpaaGreat
set_option linter.unusedVariables false
set_option linter.unusedSimpArgs false
set_option maxRecDepth 100000
open Go.RowKit
end Go.Proofs.YtioijfplbgpjpaaGreat
namespace Go.Proofs.YtioijfplbgpjpaaGreat
set_option linter.unusedVariables false
set_option linter.unusedSimpArgs false
set_option maxRecDepth 100000
open Go.RowKit
section
variable {α:Type} {f:α→List Value} {e K:Nat} {w w':World} {bs B:Nat} {v:Value} {xs:List α} {fp fp':List Nat}
end
section
variable {B:Nat} {W w w':World} {g:Nat} {t:TypeId} {cs:Array Value}
end
end Go.Proofs.YtioijfplbgpjpaaGreat
namespace Go.Proofs.YtioijfplbgpjpaaGreat
set_option linter.unusedVariables false
set_option linter.unusedSimpArgs false
set_option maxRecDepth 100000
open Go.RowKit
end Go.Proofs.YtioijfplbgpjpaaGreat
namespace Go.Proofs.YtioijfplbgpjpaaGreat
set_option linter.unusedVariables false
set_option linter.unusedSimpArgs false
set_option maxRecDepth 100000
open Go.RowKit Go.WideShapes Go.ChangeShapes Go.ChangeAt Go.Deep
open Go.ChangeMaps (open_string shut_string)
section
variable {H:Type} {enc:TypeId×Value→H} {P:Program}
end
section
variable {H:Type} {enc:TypeId×Value→H} {P:Program} {w:World} {held:Bool}
end
end Go.Proofs.YtioijfplbgpjpaaGreat
namespace Go.Proofs.YtioijfplbgpjpaaGreat
set_option linter.unusedVariables false
set_option linter.unusedSimpArgs false
set_option maxRecDepth 100000
open Go.RowKit Go.WideShapes Go.ChangeShapes Go.ChangeAt Go.Deep
set_option maxRecDepth 100000
end Go.Proofs.YtioijfplbgpjpaaGreat
namespace Go.Proofs.YtioijfplbgpjpaaGreat
set_option linter.unusedVariables false
set_option linter.unusedSimpArgs false
set_option maxRecDepth 100000
open Go.RowKit
end Go.Proofs.YtioijfplbgpjpaaGreat
namespace Go.Proofs.YtioijfplbgpjpaaGreat
set_option linter.unusedVariables false
set_option linter.unusedSimpArgs false
set_option maxRecDepth 100000
open Go.RowKit
end Go.Proofs.YtioijfplbgpjpaaGreat
namespace Go.Proofs.YtioijfplbgpjpaaGreat
set_option linter.unusedVariables false
set_option linter.unusedSimpArgs false
set_option maxRecDepth 100000
open Go.RowKit Go.WideShapes Go.ChangeShapes Go.ChangeAt Go.Deep
section
variable {H:Type} {enc:TypeId×Value→H} {P:Program} {w:World} {held:Bool}
end
end Go.Proofs.YtioijfplbgpjpaaGreat
namespace Go.Proofs.YtioijfplbgpjpaaGreat
set_option linter.unusedVariables false
set_option linter.unusedSimpArgs false
set_option maxRecDepth 100000
open Go.RowKit
section
variable {w W W':World} {l l1 l2:List Fact} {q q':Fact}
end
section
variable {w W W':World} {l l1 l2:List Fact} {g:Nat} {cs:Array Value} {t:TypeId} {v:Value} {r:Request} {fp:List Nat} {b:Nat}
end
section
variable {w W W':World} {l:List Fact} {q q2:Fact} {g B:Nat} {t:TypeId} {v:Value} {r:Request} {fp:List Nat}
end
section
variable {w W W':World} {l l1 l2:List Fact} {g b j:Nat} {cs:Array Value} {t:TypeId} {u v v':Value} {r r':Request} {fp:List Nat}
end
end Go.Proofs.YtioijfplbgpjpaaGreat
namespace Go.Proofs.YtioijfplbgpjpaaGreat
set_option linter.unusedVariables false
set_option linter.unusedSimpArgs false
set_option maxRecDepth 100000
open Go.RowKit
section
variable {w W W':World} {l l1 l2:List Fact} {q q':Fact}
end
section
variable {α:Type} {f:α→List Value} {e K base:Nat} {w W W':World} {l:List Fact} {v v':Value} {xs xs':List α} {fp:List Nat}
end
section
variable {α:Type} {f:α→List Value} {e K base:Nat} {w W W':World} {l:List Fact} {v:Value} {xs:List α} {fp:List Nat} {g n c k j:Nat} {x y:α} {us:List Value}
end
section
variable {α:Type} {F:α→α} {xs:List α} {k:Nat} {x:α}
end
end Go.Proofs.YtioijfplbgpjpaaGreat
namespace Go.Proofs.YtioijfplbgpjpaaGreat
set_option linter.unusedVariables false
set_option linter.unusedSimpArgs false
set_option maxRecDepth 100000
open Go.RowKit
end Go.Proofs.YtioijfplbgpjpaaGreat
namespace Go.Proofs.YtioijfplbgpjpaaGreat
set_option linter.unusedVariables false
set_option linter.unusedSimpArgs false
set_option maxRecDepth 100000
open Go.RowKit
end Go.Proofs.YtioijfplbgpjpaaGreat
namespace Go.Proofs.YtioijfplbgpjpaaGreat
set_option linter.unusedVariables false
set_option linter.unusedSimpArgs false
set_option maxRecDepth 100000
open Go.RowKit
section
variable {w W W':World} {l l':List Fact}
end
section
variable {α:Type} {f:α→List Value} {e K base:Nat} {w w':World} {v:Value} {xs:List α} {fp:List Nat} {g n c k:Nat} {x:α}
end
section
variable {α:Type} {inn:α→List Int} {w W W':World} {base B:Nat} {zs zs':List (α×Value)} {fp fp':List Nat} {l:List Fact} {k:Nat} {z:α×Value} {a:α} {v:Value} {ys:List Int}
end
end Go.Proofs.YtioijfplbgpjpaaGreat
namespace Go.Proofs.YtioijfplbgpjpaaGreat
set_option linter.unusedVariables false
set_option linter.unusedSimpArgs false
set_option maxRecDepth 100000
open Go.RowKit
section
variable {α:Type} {hd:α→Value→List Value} {inn:α→List Int}
end
end Go.Proofs.YtioijfplbgpjpaaGreat
namespace Go.Proofs.YtioijfplbgpjpaaGreat
set_option linter.unusedVariables false
set_option linter.unusedSimpArgs false
set_option maxRecDepth 100000
open Go.RowKit
section
variable {α:Type} {f:α→List Value} {e K:Nat} {w W W':World} {l:List Fact} {b:Nat} {v:Value} {xs:List α} {fp:List Nat}
end
section
variable {α:Type} {hd:α→Value→List Value} {inn:α→List Int} {e K B:Nat} {w W1 W2 W3 W:World} {l:List Fact} {u v v':Value} {zs:List (α×Value)} {f f1 f2 f3:List Nat} {x:α} {ys:List Int} {g n c k j:Nat} {us:List Value}
end
end Go.Proofs.YtioijfplbgpjpaaGreat
namespace Go.Proofs.YtioijfplbgpjpaaGreat
set_option linter.unusedVariables false
set_option linter.unusedSimpArgs false
set_option maxRecDepth 100000
open Go.RowKit
theorem idxF_lt {α:Type} (p:α→Bool) (xs:List α) : -1≤idxF p xs∧idxF p xs < xs.length:=by
 unfold idxF
 cases h:xs.findIdx? p with
 |none=>simp;omega
 |some i=>obtain ⟨hi,_⟩:=List.findIdx?_eq_some_iff_getElem.1 h;simp;omega
end Go.Proofs.YtioijfplbgpjpaaGreat
namespace Go.Proofs.YtioijfplbgpjpaaGreat
set_option linter.unusedVariables false
set_option linter.unusedSimpArgs false
set_option maxRecDepth 100000
open Go.RowKit
end Go.Proofs.YtioijfplbgpjpaaGreat
namespace Go.Proofs.YtioijfplbgpjpaaGreat
set_option linter.unusedVariables false
set_option linter.unusedSimpArgs false
set_option maxRecDepth 100000
open Go.RowKit
set_option maxRecDepth 100000
end Go.Proofs.YtioijfplbgpjpaaGreat
namespace Go.Proofs.YtioijfplbgpjpaaGreat
set_option linter.unusedVariables false
set_option linter.unusedSimpArgs false
set_option maxRecDepth 100000
open Go.RowKit
end Go.Proofs.YtioijfplbgpjpaaGreat
namespace Go.Proofs.YtioijfplbgpjpaaGreat
set_option linter.unusedVariables false
set_option linter.unusedSimpArgs false
set_option maxRecDepth 100000
open Go.RowKit
end Go.Proofs.YtioijfplbgpjpaaGreat
namespace Go.Proofs.YtioijfplbgpjpaaGreat
set_option linter.unusedVariables false
set_option linter.unusedSimpArgs false
set_option maxRecDepth 100000
open Go.RowKit
section
variable {α:Type} {f:α→List Value} {inn:α→List Int} {W:World} {e K base n c g i k:Nat} {F:Option Addr} {xs:List α} {zs:List (α×Value)} {fp:List Nat} {x a:α} {u:Value} {y:Int}
end
end Go.Proofs.YtioijfplbgpjpaaGreat
namespace Go.Proofs.YtioijfplbgpjpaaGreat
set_option linter.unusedVariables false
set_option linter.unusedSimpArgs false
set_option maxRecDepth 100000
section
variable {P:Program} {ops:Array Oper} {Q:Exit→Act→World→Prop} {S:World→Prop}
end
section
variable {P:Program} {ops:Array Oper} {Q:Exit→Act→World→Prop} {S:World→Prop} {listed l':Array Bool} {a b:Act} {w:World} {oi:Oper} {v:Value} {i:Nat} {rs:List Nat}
end
section
end
end Go.Proofs.YtioijfplbgpjpaaGreat
namespace Go.Proofs.YtioijfplbgpjpaaGreat
set_option linter.unusedVariables false
set_option linter.unusedSimpArgs false
set_option maxRecDepth 100000
open Go.RowKit
end Go.Proofs.YtioijfplbgpjpaaGreat
namespace Go.Proofs.YtioijfplbgpjpaaGreat
set_option linter.unusedVariables false
set_option linter.unusedSimpArgs false
set_option maxRecDepth 100000
open Go.RowKit
end Go.Proofs.YtioijfplbgpjpaaGreat
namespace Go.Proofs.YtioijfplbgpjpaaGreat
set_option linter.unusedVariables false
set_option linter.unusedSimpArgs false
set_option maxRecDepth 100000
open Go.RowKit
def hasU (u:Int) (c:Carton):Bool:=c.units.any fun y=>u == y
def cwith (xs:List Carton) (u:Int):Int:=idxF (hasU u) xs
set_option maxHeartbeats 400000 in
theorem sCartonWith_any (v:Value) (p:Plan) (u:Int) (w:World) (h:RPlan 16777216 w w.heap.size v p) :
  Calls Tryz.prog 70 #[v,.int .i64 u] w fun e w'=>e=.returned (.int .i64 (cwith p.cartons u))∧Below w.heap.size w w':=by
 obtain ⟨v1,v2,rfl,h1,_⟩:=h
 have h':=h1
 obtain ⟨A,c,rfl,hbd,_⟩:=h1
 have H:=Lib.hid h'
 clear h'
 go_enter Tryz.func70,Tryz.ntmps70
 go_wp2
 have hb0:=(Below.refl w.heap.size w).alloc (Nat.le_refl _) (.cells #[.slice A p.cartons.length c,v2] 46)
 go_loopw [5] (fun i wr=>∃ k:Nat,k≤p.cartons.length∧i=.int .i64 k∧(∀ i y,i < k→p.cartons[i]? = some y→hasU u y=false)∧wr.heap[w.heap.size]? = some (.cells #[.slice A p.cartons.length c,v2] 46 (0,0))∧Below w.heap.size w wr) (fun i _=>p.cartons.length - (intOf i).toNat)
 case atStart=>exact ⟨0,Nat.zero_le _,rfl,fun _ _ h=>by omega,by (simp only [heap_alloc_if,World.size_alloc];repeat (first | rw [if_neg (by omega)] | rw [if_pos (by omega)] | rw [if_pos trivial])),hb0⟩
 case round =>
  obtain ⟨k,hk,rfl,hno,hbox,hbl⟩:=hrel
  have HN:=Lib.hid hno
  clear hno
  have hbc:=fun j=>cell_of_row _ _ j _ _ (0,0) hbox
  have HBX:=Lib.hid hbox
  clear hbox
  by_cases hlt:k < p.cartons.length
  ·obtain ⟨b,off,x,_,rfl,hb,hx,_,⟨vx,rfl,hrx⟩,hc⟩:=(H.out.below (RCarton_mono _) hbl).at_ k hlt
   have hc2:=hc 2 _ rfl
   have HRX:=Lib.hid (hrx.more (flat_mono _) hbl.size)
   clear hc hrx
   by_cases hq:hasU u x=true
   ·have HI:=Lib.hid (idxF_hit (p:=hasU u) hx hq HN.out)
    have hq2:(x.units.any fun y=>u == y)=true:=hq
    go_wp2_with (go_at_call 152;refine (l1Has_any vx x.units u _ HRX.out).mono ?_;rintro e w' ⟨rfl,rfl⟩;rw [hq2])
    go_ret
    exact ⟨ret_int HI.out.symm,hbl⟩
   ·have hq':hasU u x=false:=by simpa using hq
    have hq2:(x.units.any fun y=>u == y)=false:=hq'
    have HI:=Lib.hid (miss_step HN.out hx hq')
    clear hq
    go_wp2_with (go_at_call 152;refine (l1Has_any vx x.units u _ HRX.out).mono ?_;rintro e w' ⟨rfl,rfl⟩;rw [hq2])
    go_roundw
    case rel=>exact ⟨k + 1,hlt,by go_num,HI.out,HBX.out,hbl⟩
    case measure=>simp [intOf];omega
  ·have HI:=Lib.hid (idxF_miss (p:=hasU u) (xs:=p.cartons) (fun i y hi hy=>HN.out i y (by omega) hy))
   go_wp2
   go_ret
   exact ⟨ret_int HI.out.symm,hbl⟩
set_option maxHeartbeats 400000 in
theorem cartonWith1_any (x:Carton) (v:Value) (u:Int) (b:Nat) (w:World) (hr:RInts 16777216 w w.heap.size v x.units) (hc:w.cell? ⟨b,0,none⟩=some (.int .i64 u)) :
  Calls Tryz.prog 130 #[.agg #[.int .i64 x.type,.int .i64 x.group,v],.pointer (some ⟨b,0,none⟩)] w fun e w'=>e=.returned (.bool (hasU u x))∧Below w.heap.size w w':=by
 have hb:=World.block_lt_of_cell? w _ hc
 have HR:=Lib.hid hr
 clear hr
 go_enter Tryz.func130,Tryz.ntmps130
 go_wp2_with fail
 refine (containsInt_any v x.units u _ (HR.out.next (flat_mono _) ((Below.refl _ _).alloc (Nat.le_refl _) _))).mono ?_
 rintro e w' ⟨rfl,rfl⟩
 go_wp2
 go_ret
 exact ⟨rfl,(by repeat' with_reducible first | assumption | exact bR | apply bD | apply bA | apply bC | apply bN | simp <;> omega)⟩
set_option maxHeartbeats 400000 in
theorem iCartonWith_any (v:Value) (p:Plan) (u:Int) (w:World) (h:RPlan 16777216 w w.heap.size v p) :
  Calls Tryz.prog 49 #[v,.int .i64 u] w fun e w'=>e=.returned (.int .i64 (cwith p.cartons u))∧Below w.heap.size w w':=by
 obtain ⟨v1,v2,rfl,h1,_⟩:=h
 have H:=Lib.hid h1
 clear h1
 have hb0:Below w.heap.size w ((w.alloc (.cells #[v1,v2] 46)).alloc (.cells #[.int .i64 u] 3)):=(by repeat' with_reducible first | assumption | exact bR | apply bD | apply bA | apply bC | apply bN | simp <;> omega)
 have hq:((w.alloc (.cells #[v1,v2] 46)).alloc (.cells #[.int .i64 u] 3)).cell? ⟨w.heap.size + 1,0,none⟩=some (.int .i64 u):=by simp
 go_enter Tryz.func49,Tryz.ntmps49
 go_wp2_with fail
 refine (indexFuncCarton_any 130 #[.pointer (some ⟨w.heap.size + 1,0,none⟩)] (hasU u) v1 p.cartons _ (H.out.next (RCarton_mono _) hb0) (run_enter Tryz.func130 (by kernel_rfl) (by kernel_rfl))
  (fun W x vx hW hr=>cartonWith1_any x vx u (w.heap.size + 1) W hr ((hW.cell (p:=⟨w.heap.size + 1,0,none⟩) (by simp)).trans hq))).mono ?_
 rintro e w2 ⟨rfl,hb2⟩
 go_wp2
 go_ret
 exact ⟨rfl,bstep hb0 hb2⟩
end Go.Proofs.YtioijfplbgpjpaaGreat
namespace Go.Proofs.YtioijfplbgpjpaaGreat
set_option linter.unusedVariables false
set_option linter.unusedSimpArgs false
set_option maxRecDepth 100000
open Go.RowKit
end Go.Proofs.YtioijfplbgpjpaaGreat
namespace Go.Proofs.YtioijfplbgpjpaaGreat
set_option linter.unusedVariables false
set_option linter.unusedSimpArgs false
set_option maxRecDepth 100000
open Go.RowKit
end Go.Proofs.YtioijfplbgpjpaaGreat
namespace Go.Proofs.YtioijfplbgpjpaaGreat
set_option linter.unusedVariables false
set_option linter.unusedSimpArgs false
set_option maxRecDepth 100000
open Go.RowKit
end Go.Proofs.YtioijfplbgpjpaaGreat
namespace Go.Proofs.YtioijfplbgpjpaaGreat
set_option linter.unusedVariables false
set_option linter.unusedSimpArgs false
set_option maxRecDepth 100000
open Go.RowKit
end Go.Proofs.YtioijfplbgpjpaaGreat
namespace Go.Proofs.YtioijfplbgpjpaaGreat
set_option linter.unusedVariables false
set_option linter.unusedSimpArgs false
set_option maxRecDepth 100000
open Go.RowKit
end Go.Proofs.YtioijfplbgpjpaaGreat
namespace Go.Proofs.YtioijfplbgpjpaaGreat
set_option linter.unusedVariables false
set_option linter.unusedSimpArgs false
set_option maxRecDepth 100000
open Go.RowKit Go.WideShapes Go.ChangeShapes Go.ChangeAt Go.Deep
end Go.Proofs.YtioijfplbgpjpaaGreat
namespace Go.Proofs.YtioijfplbgpjpaaGreat
set_option linter.unusedVariables false
set_option linter.unusedSimpArgs false
set_option maxRecDepth 100000
open Go.RowKit Go.Deep
end Go.Proofs.YtioijfplbgpjpaaGreat
namespace Go.Proofs.YtioijfplbgpjpaaGreat
set_option linter.unusedVariables false
set_option linter.unusedSimpArgs false
set_option maxRecDepth 100000
open Go.RowKit Go.Deep
end Go.Proofs.YtioijfplbgpjpaaGreat
namespace Go.Proofs.YtioijfplbgpjpaaGreat
set_option linter.unusedVariables false
set_option linter.unusedSimpArgs false
set_option maxRecDepth 100000
open Go.RowKit
def tog (p:Plan) (u:Int):List Int:=if cwith p.cartons u < 0 then [] else (sortI (p.cartons.getD (cwith p.cartons u).toNat default).units).filter fun y=>!decide (y=u)
theorem tog_len (p:Plan) (u:Int):(tog p u).length≤p.bulk:=by
 unfold tog
 split
 ·simp
 ·refine Nat.le_trans (List.length_filter_le _ _) ?_
  rw [sortI_length]
  cases h:p.cartons[(cwith p.cartons u).toNat]? with
  |none=>simp [List.getD,h];exact Nat.zero_le _
  |some x=>simp [List.getD,h];exact units_le (List.mem_of_getElem? h)
end Go.Proofs.YtioijfplbgpjpaaGreat
namespace Go.Proofs.YtioijfplbgpjpaaGreat
set_option linter.unusedVariables false
set_option linter.unusedSimpArgs false
set_option maxRecDepth 100000
open Go.RowKit Go.WideShapes Go.ChangeShapes Go.ChangeAt Go.Deep
end Go.Proofs.YtioijfplbgpjpaaGreat
namespace Go.Proofs.YtioijfplbgpjpaaGreat
set_option linter.unusedVariables false
set_option linter.unusedSimpArgs false
set_option maxRecDepth 100000
open Go.RowKit Go.WideShapes Go.ChangeShapes Go.ChangeAt Go.Deep
end Go.Proofs.YtioijfplbgpjpaaGreat
namespace Go.Proofs.YtioijfplbgpjpaaGreat
set_option linter.unusedVariables false
set_option linter.unusedSimpArgs false
set_option maxRecDepth 100000
open Go.RowKit Go.WideShapes Go.ChangeShapes Go.ChangeAt Go.Deep
end Go.Proofs.YtioijfplbgpjpaaGreat
namespace Go.Proofs.YtioijfplbgpjpaaGreat
set_option linter.unusedVariables false
set_option linter.unusedSimpArgs false
set_option maxRecDepth 100000
open Go.RowKit Go.WideShapes Go.ChangeShapes Go.ChangeAt Go.Deep
end Go.Proofs.YtioijfplbgpjpaaGreat
namespace Go.Proofs.YtioijfplbgpjpaaGreat
set_option linter.unusedVariables false
set_option linter.unusedSimpArgs false
set_option maxRecDepth 100000
open Go.RowKit
theorem cwith_at {cs:List Carton} {u:Int} (h : ¬ cwith cs u < 0):∃ (j:Nat) (x:Carton),cwith cs u=j∧cs[j]? = some x∧cs.getD (cwith cs u).toNat default=x∧hasU u x=true:=by
 unfold cwith idxF at *
 cases hf:cs.findIdx? (hasU u) with
 |none=>rw [hf] at h;simp at h
 |some i =>
  obtain ⟨h1,h2,_⟩:=List.findIdx?_eq_some_iff_getElem.1 hf
  exact ⟨i,cs[i],rfl,List.getElem?_eq_getElem h1,by simp [List.getD,h1],h2⟩
set_option maxHeartbeats 400000 in
theorem together1_gives (u x:Int) (B:Nat) (W:World) (hc:W.cell? ⟨B,0,none⟩=some (.int .i64 u)) :
  FnGives Tryz.prog 127 #[.pointer (some ⟨B,0,none⟩)] #[.int .i64 x] (.bool (decide (x=u))) W:=by
 show Calls Tryz.prog 127 #[.int .i64 x,.pointer (some ⟨B,0,none⟩)] W _
 go_enter Tryz.func127,Tryz.ntmps127
 go_wp2
 go_ret
 exact ⟨ret_bool (by rw [Bool.eq_iff_iff];simp),0,rfl⟩
set_option maxHeartbeats 400000 in
theorem sTogether_any (v:Value) (p:Plan) (u:Int) (w:World) (h:RPlan 16777216 w w.heap.size v p) (hL:p.bulk≤16777216):Calls Tryz.prog 69 #[v,.int .i64 u] w (MInts w (tog p u)):=by
 have HP:=Lib.hid h
 obtain ⟨v1,v2,rfl,h1,_⟩:=h
 have H:=Lib.hid h1
 obtain ⟨A,c,rfl,hbd,_⟩:=h1
 have hb0:Below w.heap.size w ((w.alloc (.cells #[.slice A p.cartons.length c,v2] 46)).alloc (.cells #[] 3)):=(by repeat' with_reducible first | assumption | exact bR | apply bD | apply bA | apply bC | apply bN | simp <;> omega)
 have hbx:((w.alloc (.cells #[.slice A p.cartons.length c,v2] 46)).alloc (.cells #[] 3)).heap[w.heap.size]? = some (.cells #[.slice A p.cartons.length c,v2] 46 (0,0)):=by (simp only [heap_alloc_if,World.size_alloc];repeat (first | rw [if_neg (by omega)] | rw [if_pos (by omega)] | rw [if_pos trivial]))
 have hby:((w.alloc (.cells #[.slice A p.cartons.length c,v2] 46)).alloc (.cells #[] 3)).heap[w.heap.size + 1]? = some (.cells #[] 3 (0,0)):=by (simp only [heap_alloc_if,World.size_alloc];repeat (first | rw [if_neg (by omega)] | rw [if_pos (by omega)] | rw [if_pos trivial]))
 have HX:=Lib.hid hbx
 have HY:=Lib.hid hby
 clear hbx hby
 go_enter Tryz.func69,Tryz.ntmps69
 go_wp2_with fail
 refine (sCartonWith_any _ p u _ (HP.out.next hb0)).mono ?_
 rintro e w1 ⟨rfl,hb1⟩
 have HX1:=Lib.hid (blk_next HX.out hb1)
 have HY1:=Lib.hid (blk_next HY.out hb1)
 have hcx:=fun j=>cell_of_row _ _ j _ _ (0,0) HX1.out
 have hlx:=lt_of_block HX1.out
 have hly:=lt_of_block HY1.out
 have hb01:=bstep hb0 hb1
 by_cases hneg:cwith p.cartons u < 0
 ·have ht:tog p u=[]:=by unfold tog;rw [if_pos hneg]
  have HT:=Lib.hid ht
  clear ht
  go_wp2
  go_ret
  rw [HT.out]
  exact MInts.row (xs:=[]) (B:=w.heap.size) (own_nil (α:=Int) (f:=cI) (Nat.le_succ _) HY1.out) (Nat.le_refl _) hb01
 ·obtain ⟨j,x,hj,hx,hx2,_⟩:=cwith_at hneg
  have ht:tog p u=(sortI x.units).filter fun y=>!decide (y=u):=by unfold tog;rw [if_neg hneg,hx2]
  have HT:=Lib.hid ht
  rw [hj]
  have hjl:=(List.getElem?_eq_some_iff.1 hx).1
  obtain ⟨b,off,x',_,rfl,hb,hx3,_,⟨vx,rfl,hrx⟩,hc⟩:=(H.out.below (RCarton_mono _) hb01).at_ j hjl
  rw [hx] at hx3
  cases hx3
  have hc2:=hc 2 _ rfl
  have HRX:=Lib.hid hrx
  obtain ⟨Ax,cx,rfl,hxl,_⟩:=hrx
  clear hc hx hx2 hneg hj ht
  obtain ⟨sl,hsl⟩:∃ l,l=sortI x.units:=⟨_,rfl⟩
  obtain ⟨au,hau⟩:∃ l,l=argUp x.units:=⟨_,rfl⟩
  have hsll:sl.length=x.units.length:=by rw [hsl,sortI_length]
  have haul:au.length=x.units.length:=by rw [hau,argUp_length]
  rw [← hsl] at HT
  have HG:=Lib.hid (show ∀ k p,au[k]? = some p→sl[k]? = some (keyAt x.units p)∧p < x.units.length by
   intro k p hp
   rw [hau] at hp
   exact ⟨by rw [hsl];exact sortI_at hp,argUp_mem.1 (List.mem_of_getElem? hp)⟩)
  have HU:=Lib.hid (fun W (hW:Below w1.heap.size w1 W)=>by have:=sSortUp_any _ x.units W (RL.keep HRX.out (flat_mono _) (fun p hp=>hW.cell (Nat.lt_of_lt_of_le hp hb01.size)) (Nat.le_trans hb01.size hW.size));rwa [← hau] at this)
  have HLS:=Lib.hid hsll
  have HLA:=Lib.hid haul
  clear hsl hau
  go_wp2_with fail
  refine (HU.out _ (Below.refl _ _)).mono ?_
  rintro e w2 ⟨va,fa,rfl,hoa,hb2⟩
  have HX2:=Lib.hid (blk_next HX1.out hb2)
  have HY2:=Lib.hid (blk_next HY1.out hb2)
  have hb02:=bstep hb01 hb2
  obtain ⟨Aa,ca,rfl,_⟩:=OInts.form hoa
  have HA:=Lib.hid (hoa.read (by rw [ints_length];omega))
  rw [ints_length,haul] at HA ⊢
  have hw02:=hb02.size
  have hw12:=hb2.size
  clear hoa hcx
  go_wp2
  go_loopw [5,9] (fun v iv wr=>∃ k:Nat,k≤x.units.length∧iv=.int .i64 k∧ownsZ wr w.heap.size w2.heap.size 3 1 v ((sl.take k).filter fun y=>!decide (y=u)).length (((sl.take k).filter fun y=>!decide (y=u)).flatMap cI)∧Below w2.heap.size w2 wr) (fun _ iv _=>x.units.length - (intOf iv).toNat)
  case atStart=>exact ⟨0,Nat.zero_le _,rfl,ownsZ_start (Nat.le_succ _) (by omega) HY2.out,Below.refl _ _⟩
  case round =>
   obtain ⟨k,hk,rfl,hown,hbl⟩:=hrel
   by_cases hlt:k < x.units.length
   ·obtain ⟨pl,hpl⟩:∃ q,au[k]? = some q:=⟨_,List.getElem?_eq_getElem (by rw [HLA.out];exact hlt)⟩
    obtain ⟨hsk,hpu⟩:=HG.out k pl hpl
    obtain ⟨ba,oa,rfl,hba,hca⟩:=ints_read (HA.out.below (flat_mono _) hbl) k hpl
    obtain ⟨bu,ou,xu,rfl,hbu,hxu,hcu⟩:=RL.at1 (RL.keep (w':=wr) HRX.out (flat_mono _) (fun p hp=>(hb2.trans (hbl.mono hw12)).cell (Nat.lt_of_lt_of_le hp hb01.size)) (Nat.le_refl _)) pl hpu
    rw [keyAt_get hpu] at hxu
    cases hxu
    have hcu':=hcu _ rfl
    obtain ⟨y,hy⟩:∃ y,keyAt x.units pl=y:=⟨_,rfl⟩
    rw [hy] at hcu' hsk
    have hle:((sl.take k).filter fun y=>!decide (y=u)).length≤k:=Nat.le_trans (List.length_filter_le _ _) (List.length_take_le _ _)
    have htk:sl.take (k + 1)=sl.take k ++ [y]:=by rw [List.take_add_one,hsk];rfl
    have HTK:=Lib.hid htk
    have HO:=Lib.hid hown
    have hsz:=hbl.size
    clear hcu hpl hy hsk htk hown
    by_cases hyu:y=u
    ·have hq:(y != u)=false:=by simp [hyu]
     have hd:decide (y=u)=true:=by simp [hyu]
     have HD:=Lib.hid hd
     clear hyu hd
     go_wp2
     go_roundw
     case rel=>exact ⟨k + 1,hlt,by go_num,by rw [HTK.out,List.filter_append];simpa [HD.out] using HO.out,hbl⟩
     case measure=>simp [intOf];omega
    ·have hq:(y != u)=true:=by simpa using hyu
     have hd:decide (y=u)=false:=by simp [hyu]
     have HD:=Lib.hid hd
     clear hyu hd
     go_wp2_with (at_builtin;refine at_app (.tmp 40) (.tmp 48) 53 rfl ?_;refine appZ1_Int (.tmp 40) (.tmp 48) rfl rfl _ rfl rfl rfl rfl HO.out (by omega) hsz ?_;intro v' w' ho hb _ _)
     go_roundw
     case rel=>exact ⟨k + 1,hlt,by go_num,by rw [HTK.out,List.filter_append];simpa [HD.out] using ho,hbl.trans hb⟩
     case measure=>simp [intOf];omega
   ·obtain rfl:k=x.units.length:=by omega
    rw [List.take_of_length_le (by omega)] at hown
    go_wp2
    go_ret
    rw [HT.out]
    exact MInts.row (hown.own hw02) (Nat.le_refl _) (hb02.trans (hbl.mono hw02))
set_option maxHeartbeats 400000 in
theorem iTogether_any (v:Value) (p:Plan) (u:Int) (w:World) (h:RPlan 16777216 w w.heap.size v p) (hL:p.bulk≤16777216):Calls Tryz.prog 48 #[v,.int .i64 u] w (MInts w (tog p u)):=by
 have HP:=Lib.hid h
 obtain ⟨v1,v2,rfl,h1,_⟩:=h
 have H:=Lib.hid h1
 obtain ⟨A,c,rfl,hbd,_⟩:=h1
 have hb0:Below w.heap.size w ((w.alloc (.cells #[.slice A p.cartons.length c,v2] 46)).alloc (.cells #[.int .i64 u] 3)):=(by repeat' with_reducible first | assumption | exact bR | apply bD | apply bA | apply bC | apply bN | simp <;> omega)
 have hbx:((w.alloc (.cells #[.slice A p.cartons.length c,v2] 46)).alloc (.cells #[.int .i64 u] 3)).heap[w.heap.size]? = some (.cells #[.slice A p.cartons.length c,v2] 46 (0,0)):=by (simp only [heap_alloc_if,World.size_alloc];repeat (first | rw [if_neg (by omega)] | rw [if_pos (by omega)] | rw [if_pos trivial]))
 have hby:((w.alloc (.cells #[.slice A p.cartons.length c,v2] 46)).alloc (.cells #[.int .i64 u] 3)).heap[w.heap.size + 1]? = some (.cells #[.int .i64 u] 3 (0,0)):=by (simp only [heap_alloc_if,World.size_alloc];repeat (first | rw [if_neg (by omega)] | rw [if_pos (by omega)] | rw [if_pos trivial]))
 have HX:=Lib.hid hbx
 have HY:=Lib.hid hby
 clear hbx hby
 have eg:∀ args W,(callFunc 127 args).run Tryz.prog W=.ok (.enter 127 args) W:=fun args W=>run_enter Tryz.func127 (by kernel_rfl) rfl args W
 go_enter Tryz.func48,Tryz.ntmps48
 go_wp2_with fail
 refine (iCartonWith_any _ p u _ (HP.out.next hb0)).mono ?_
 rintro e w1 ⟨rfl,hb1⟩
 have HX1:=Lib.hid (blk_next HX.out hb1)
 have HY1:=Lib.hid (blk_next HY.out hb1)
 have hcx:=fun j=>cell_of_row _ _ j _ _ (0,0) HX1.out
 have hlx:=lt_of_block HX1.out
 have hb01:=bstep hb0 hb1
 by_cases hneg:cwith p.cartons u < 0
 ·have HT:=Lib.hid (show tog p u=[] by unfold tog;rw [if_pos hneg])
  go_wp2
  go_ret
  rw [HT.out]
  exact MInts.row (xs:=[]) (B:=w.heap.size) (World.ownsRow_nil _ _ _ _) (Nat.le_refl _) hb01
 ·obtain ⟨j,x,hj,hx,hx2,hux⟩:=cwith_at hneg
  have HT:=Lib.hid (show tog p u=sortI (x.units.filter fun y=>!decide (y=u)) by unfold tog;rw [if_neg hneg,hx2,sortI_filter])
  rw [hj]
  have hjl:=(List.getElem?_eq_some_iff.1 hx).1
  obtain ⟨b,off,x',_,rfl,hb,hx3,_,⟨vx,rfl,hrx⟩,hc⟩:=(H.out.below (RCarton_mono _) hb01).at_ j hjl
  rw [hx] at hx3
  cases hx3
  have hc2:=hc 2 _ rfl
  have HRX:=Lib.hid (hrx.more (flat_mono _) hb01.size)
  obtain ⟨Ax,cx,rfl,hxl,_⟩:=hrx
  have hn:0 < x.units.length:=by
   unfold hasU at hux
   obtain ⟨y,hy,_⟩:=List.any_eq_true.1 hux
   exact List.length_pos_of_mem hy
  clear hc hx hx2 hneg hj hux
  go_wp2_with fail
  refine (cloneInts_any _ x.units _ HRX.out).mono ?_
  rintro e w2 ⟨v3,f3,rfl,ho3,hb2⟩
  have HY2:=Lib.hid (blk_next HY1.out hb2)
  have hlt3:=ho3.lt
  have hly:=lt_of_block HY1.out
  have hg:∀ (W:World) (y:Int),(∀ b,b < w2.heap.size→b ∉ f3→W.heap[b]? = w2.heap[b]?)→FnGives Tryz.prog 127 #[.pointer (some ⟨w.heap.size + 1,0,none⟩)] #[.int .i64 y] (.bool (decide (y=u))) W:=by
   intro W y hW
   refine together1_gives u y (w.heap.size + 1) W ?_
   have hq:=(hW (w.heap.size + 1) (by have:=hb2.size;omega) (fun hm=>by have:=(hlt3 _ hm).1;omega)).trans HY2.out
   rw [cell_of_row _ _ 0 _ _ (0,0) hq]
   rfl
  have hd:=deleteInts_any 127 #[.pointer (some ⟨w.heap.size + 1,0,none⟩)] (fun y=>decide (y=u)) v3 x.units f3 w1.heap.size w2 ho3 (by omega) hn eg hg
  have HD:=Lib.hid hd
  have hb02:=bstep hb01 hb2
  have hlo:∀ b∈f3,w.heap.size≤b:=fun b hb=>Nat.le_trans hb01.size (hlt3 b hb).1
  have HLO:=Lib.hid hlo
  have hle:(x.units.filter fun y=>!decide (y=u)).length≤33554432:=Nat.le_trans (List.length_filter_le _ _) (by omega)
  clear hg hd hlo hlt3 ho3 hcx eg
  go_wp2_with fail
  refine HD.out.mono ?_
  rintro e w3 ⟨v4,rfl,ho4,ht3⟩
  have HB3:=Lib.hid (hb02.trans (ht3.below hb02.size HLO.out))
  have HO4:=Lib.hid ho4
  clear ho4 ht3
  go_wp2_with fail
  refine (sortInt_any v4 _ f3 _ _ HO4.out hle).mono ?_
  rintro e w4 ⟨rfl,ho5,ht4⟩
  have HO5:=Lib.hid ho5
  have HB4:=Lib.hid (HB3.out.trans (ht4.below HB3.out.size HLO.out))
  clear ho5 ht4
  go_wp2
  go_ret
  rw [HT.out]
  exact MInts.mk HO5.out hb01.size HB4.out
end Go.Proofs.YtioijfplbgpjpaaGreat
namespace Go.Proofs.YtioijfplbgpjpaaGreat
set_option linter.unusedVariables false
set_option linter.unusedSimpArgs false
set_option maxRecDepth 100000
open Go.RowKit
def movF (a b:Plan) (u:Int):Bool:=decide (0≤cwith b.cartons u) && !decide (tog a u=tog b u)
def mov (a b:Plan):List Int:=(kindsM (allU a.cartons)).filter (movF a b)
set_option maxHeartbeats 1000000 in
theorem iMoved_any (va vb:Value) (a b:Plan) (w:World) (ha:RPlan 16777216 w w.heap.size va a) (hb:RPlan 16777216 w w.heap.size vb b) (hLa:a.bulk≤16777216) (hLb:b.bulk≤16777216):Calls Tryz.prog 45 #[va,vb] w (MInts w (mov a b)):=by
 have HA:=Lib.hid ha
 have HB:=Lib.hid hb
 obtain ⟨a1,a2,rfl,_,_⟩:=ha
 obtain ⟨b1,b2,rfl,_,_⟩:=hb
 have hW0:Below w.heap.size w (((w.alloc (.cells #[a1,a2] 46)).alloc (.cells #[b1,b2] 46)).alloc (.cells #[] 3)):=(by repeat' with_reducible first | assumption | exact bR | apply bD | apply bA | apply bC | apply bN | simp <;> omega)
 have HX0:Hid ((((w.alloc (.cells #[a1,a2] 46)).alloc (.cells #[b1,b2] 46)).alloc (.cells #[] 3)).heap[w.heap.size]? = some (.cells #[a1,a2] 46 (0,0))):=Lib.hid (by (simp only [heap_alloc_if,World.size_alloc];repeat (first | rw [if_neg (by omega)] | rw [if_pos (by omega)] | rw [if_pos trivial])))
 have HY0:Hid ((((w.alloc (.cells #[a1,a2] 46)).alloc (.cells #[b1,b2] 46)).alloc (.cells #[] 3)).heap[w.heap.size + 1]? = some (.cells #[b1,b2] 46 (0,0))):=Lib.hid (by (simp only [heap_alloc_if,World.size_alloc];repeat (first | rw [if_neg (by omega)] | rw [if_pos (by omega)] | rw [if_pos trivial])))
 have HZ0:Hid ((((w.alloc (.cells #[a1,a2] 46)).alloc (.cells #[b1,b2] 46)).alloc (.cells #[] 3)).heap[w.heap.size + 2]? = some (.cells #[] 3 (0,0))):=Lib.hid (by (simp only [heap_alloc_if,World.size_alloc];repeat (first | rw [if_neg (by omega)] | rw [if_pos (by omega)] | rw [if_pos trivial])))
 have hAl:=Nat.le_trans (allU_bulk a) hLa
 go_enter Tryz.func45,Tryz.ntmps45
 go_wp2_with fail
 refine (allUnits_any _ a _ (HA.out.next hW0) hLa).mono ?_
 rintro e w1 ⟨v1,f1,rfl,ho1,hb1⟩
 have HO1:=Lib.hid ho1
 clear ho1
 go_wp2_with fail
 refine (kinds_any _ _ _ (HO1.out.read hAl)).mono ?_
 rintro e w2 ⟨v2,f2,rfl,ho2,hb2⟩
 have HX2:=Lib.hid (blk_next (blk_next HX0.out hb1) hb2)
 have HY2:=Lib.hid (blk_next (blk_next HY0.out hb1) hb2)
 have HZ2:=Lib.hid (blk_next (blk_next HZ0.out hb1) hb2)
 have hW2:=bstep (bstep hW0 hb1) hb2
 obtain ⟨ks,hks⟩:∃ l,l=kindsM (allU a.cartons):=⟨_,rfl⟩
 have hkl:ks.length≤16777216:=by rw [hks];exact Nat.le_trans (kindsM_le _) hAl
 have HM:=Lib.hid (show mov a b=ks.filter (movF a b) by rw [hks];rfl)
 rw [← hks] at ho2
 have HK:=Lib.hid (ho2.read hkl)
 obtain ⟨A2,c2,rfl,hc2⟩:=OInts.form ho2
 have hlX:=lt_of_block HX2.out
 have hlY:=lt_of_block HY2.out
 have hlZ:=lt_of_block HZ2.out
 have hw02:=hW2.size
 clear ho2 hks hb1 hb2
 go_wp2
 go_loopw [5,13] (fun v iv wr=>∃ k:Nat,k≤ks.length∧iv=.int .i64 k∧ownsZ wr w.heap.size w2.heap.size 3 1 v ((ks.take k).filter (movF a b)).length (((ks.take k).filter (movF a b)).flatMap cI)∧Below w2.heap.size w2 wr) (fun _ iv _=>ks.length - (intOf iv).toNat)
 case atStart=>exact ⟨0,Nat.zero_le _,rfl,ownsZ_start (g:=w.heap.size + 2) (by omega) hlZ HZ2.out,Below.refl _ _⟩
 case round =>
  obtain ⟨k,hk,rfl,hown,hbl⟩:=hrel
  have HO:=Lib.hid hown
  have HWr:=Lib.hid (hW2.trans (hbl.mono hw02))
  have hbx:=(hbl.block _ hlX).trans HX2.out
  have hby:=(hbl.block _ hlY).trans HY2.out
  have hsz:=hbl.size
  clear hown
  by_cases hlt:k < ks.length
  ·obtain ⟨u,hu⟩:∃ u,ks[k]? = some u:=⟨_,List.getElem?_eq_getElem hlt⟩
   obtain ⟨bk,ok,x,rfl,hbk,hx,hcx⟩:=RL.at1 (HK.out.below (flat_mono _) hbl) k hlt
   rw [hu] at hx
   cases hx
   have hcu:=hcx _ rfl
   have htk:ks.take (k + 1)=ks.take k ++ [u]:=by rw [List.take_add_one,hu];rfl
   have HTK:=Lib.hid htk
   have hle:((ks.take k).filter (movF a b)).length≤k:=Nat.le_trans (List.length_filter_le _ _) (List.length_take_le _ _)
   have hq1:wr.cell? ⟨w.heap.size,0,none⟩=some a1:=cell_of_row _ _ 0 _ _ (0,0) hbx
   have hq2:wr.cell? ⟨w.heap.size,1,none⟩=some a2:=cell_of_row _ _ 1 _ _ (0,0) hbx
   have hq3:wr.cell? ⟨w.heap.size + 1,0,none⟩=some b1:=cell_of_row _ _ 0 _ _ (0,0) hby
   have hq4:wr.cell? ⟨w.heap.size + 1,1,none⟩=some b2:=cell_of_row _ _ 1 _ _ (0,0) hby
   have hlX':w.heap.size < wr.heap.size:=by omega
   have hlY':w.heap.size + 1 < wr.heap.size:=by omega
   have hbd:Below wr.heap.size wr wr.drew:=(Below.refl _ _).drew
   obtain ⟨cw,hcw⟩:∃ x,cwith b.cartons u=x:=⟨_,rfl⟩
   have HCW:=Lib.hid hcw
   have HWd:=Lib.hid (bstep HWr.out hbd)
   clear hcx hu htk hbx hby hcw
   by_cases hneg:cw < 0
   ·have hd1:decide (0≤cw)=false:=by simp;omega
    have HF:=Lib.hid (show movF a b u=false by unfold movF;rw [HCW.out,hd1];rfl)
    have hE:=fun X:Ext wr.heap.size wr=>ext_call (x:=X) (Nat.le_refl _) (iCartonWith_any _ b u _ (HB.out.next (bstep HWr.out X.ok)))
    simp only [HCW.out] at hE
    have HE:=Lib.hid hE
    have he3:=fun X:Ext wr.heap.size wr=>(X.cells (o:=0) hlY').trans hq3
    have he4:=fun X:Ext wr.heap.size wr=>(X.cells (o:=1) hlY').trans hq4
    clear hq1 hq2 hq3 hq4 hE
    go_wp2
    refine wp_region_ext wr.heap.size (by kernel_rfl) (by kernel_rfl) ?_
    repeat (go_big_quiet_step (exact HE.out _))
    refine wpQuiet_nil ?_
    intro _ hw'
    obtain ⟨X,rfl⟩:=hw'
    go_wp2
    go_roundw
    case rel=>exact ⟨k + 1,hlt,by go_num,by rw [HTK.out,List.filter_append];simpa [HF.out] using (HO.out.next X.ok),hbl.trans (X.ok.mono hsz)⟩
    case measure=>simp [intOf];omega
   ·have hd1:decide (0≤cw)=true:=by simp;omega
    obtain ⟨ta,hta⟩:∃ l,l=tog a u:=⟨_,rfl⟩
    obtain ⟨tb,htb⟩:∃ l,l=tog b u:=⟨_,rfl⟩
    have htal:ta.length≤16777216:=by rw [hta];exact Nat.le_trans (tog_len a u) hLa
    have htbl:tb.length≤16777216:=by rw [htb];exact Nat.le_trans (tog_len b u) hLb
    have HF:=Lib.hid (show movF a b u = !decide (ta=tb) by unfold movF;rw [HCW.out,hd1,hta,htb];rfl)
    have HTA:=Lib.hid (fun W (hW:RPlan 16777216 W W.heap.size (.agg #[a1,a2]) a)=>by have:=iTogether_any _ a u W hW hLa;rwa [← hta] at this)
    have HTB:=Lib.hid (fun W (hW:RPlan 16777216 W W.heap.size (.agg #[b1,b2]) b)=>by have:=iTogether_any _ b u W hW hLb;rwa [← htb] at this)
    have HD:=Lib.hid hd1
    have hge:0≤cw:=by omega
    clear hta htb hneg hd1
    go_wp2
    go_region_held3 (fun W'=>W'.cell? ⟨w.heap.size,0,none⟩=some a1∧W'.cell? ⟨w.heap.size,1,none⟩=some a2∧W'.cell? ⟨w.heap.size + 1,0,none⟩=some b1∧W'.cell? ⟨w.heap.size + 1,1,none⟩=some b2)
     (first | go_keep | exact ⟨k1,k2,k3,k4⟩ | exact ⟨l1,l2,l3,l4⟩ | exact ⟨m1,m2,m3,m4⟩ | exact ⟨n1,n2,n3,n4⟩)
     (first
      |(go_at_call 49;refine (iCartonWith_any _ b u _ (HB.out.next HWd.out)).mono ?_;rintro e w5 ⟨rfl,hb5⟩;rw [HCW.out];have k1:=(hb5.cell (p:=⟨w.heap.size,0,none⟩) hlX').trans hq1;have k2:=(hb5.cell (p:=⟨w.heap.size,1,none⟩) hlX').trans hq2;have k3:=(hb5.cell (p:=⟨w.heap.size + 1,0,none⟩) hlY').trans hq3;have k4:=(hb5.cell (p:=⟨w.heap.size + 1,1,none⟩) hlY').trans hq4;have hs5:=hb5.size;have HW5:=Lib.hid (bstep HWd.out hb5))
      |(go_at_call 48;((with_reducible refine (HTA.out _ (HA.out.next HW5.out)).mono ?_));rintro e w6 ⟨u6,f6,rfl,ho6,hb6⟩;have l1:=(hb6.cell (p:=⟨w.heap.size,0,none⟩) (Nat.lt_of_lt_of_le hlX' hs5)).trans k1;have l2:=(hb6.cell (p:=⟨w.heap.size,1,none⟩) (Nat.lt_of_lt_of_le hlX' hs5)).trans k2;have l3:=(hb6.cell (p:=⟨w.heap.size + 1,0,none⟩) (Nat.lt_of_lt_of_le hlY' hs5)).trans k3;have l4:=(hb6.cell (p:=⟨w.heap.size + 1,1,none⟩) (Nat.lt_of_lt_of_le hlY' hs5)).trans k4;have hs6:=Nat.le_trans hs5 hb6.size;have HW6:=Lib.hid (bstep HW5.out hb6);have HO6:=Lib.hid ho6;clear ho6)
      |(go_at_call 48;((with_reducible refine (HTB.out _ (HB.out.next HW6.out)).mono ?_));rintro e w7 ⟨u7,f7,rfl,ho7,hb7⟩;have m1:=(hb7.cell (p:=⟨w.heap.size,0,none⟩) (Nat.lt_of_lt_of_le hlX' hs6)).trans l1;have m2:=(hb7.cell (p:=⟨w.heap.size,1,none⟩) (Nat.lt_of_lt_of_le hlX' hs6)).trans l2;have m3:=(hb7.cell (p:=⟨w.heap.size + 1,0,none⟩) (Nat.lt_of_lt_of_le hlY' hs6)).trans l3;have m4:=(hb7.cell (p:=⟨w.heap.size + 1,1,none⟩) (Nat.lt_of_lt_of_le hlY' hs6)).trans l4;have hs7:=Nat.le_trans hs6 hb7.size;have HW7:=Lib.hid (bstep HW6.out hb7);have HO7:=Lib.hid ho7;have HO67:=Lib.hid (HO6.out.next hb7);clear ho7)
      |(go_at_call 122;refine (equalInt_any _ _ ta tb _ (HO67.out.read htal) (HO7.out.read htbl)).mono ?_;rintro e w8 ⟨rfl,hb8⟩;have n1:=(hb8.cell (p:=⟨w.heap.size,0,none⟩) (Nat.lt_of_lt_of_le hlX' hs7)).trans m1;have n2:=(hb8.cell (p:=⟨w.heap.size,1,none⟩) (Nat.lt_of_lt_of_le hlX' hs7)).trans m2;have n3:=(hb8.cell (p:=⟨w.heap.size + 1,0,none⟩) (Nat.lt_of_lt_of_le hlY' hs7)).trans m3;have n4:=(hb8.cell (p:=⟨w.heap.size + 1,1,none⟩) (Nat.lt_of_lt_of_le hlY' hs7)).trans m4))
    have HB8:=Lib.hid (bstep (bstep (bstep (bstep hbd hb5) hb6) hb7) hb8)
    have HO8:=Lib.hid (HO.out.next HB8.out)
    have hs8:w2.heap.size≤w8.heap.size:=Nat.le_trans hsz HB8.out.size
    clear hq1 hq2 hq3 hq4 k1 k2 k3 k4 l1 l2 l3 l4 m1 m2 m3 m4 n1 n2 n3 n4 hb5 hb6 hb7 hb8
    by_cases heq:ta=tb
    ·have HF2:=Lib.hid (show movF a b u=false by rw [HF.out];simp [heq])
     have hde:decide (ta=tb)=true:=by simp [heq]
     rw [hde]
     clear heq hde
     go_wp2
     go_roundw
     case rel=>exact ⟨k + 1,hlt,by go_num,by rw [HTK.out,List.filter_append];simpa [HF2.out] using HO8.out,hbl.trans (HB8.out.mono hsz)⟩
     case measure=>simp [intOf];omega
    ·have HF2:=Lib.hid (show movF a b u=true by rw [HF.out];simp [heq])
     have hde:decide (ta=tb)=false:=by simp [heq]
     rw [hde]
     clear heq hde
     go_wp2_with (at_builtin;refine at_app (.tmp 31) (.tmp 33) 53 rfl ?_;refine appZ1_Int (.tmp 31) (.tmp 33) rfl rfl _ rfl rfl rfl rfl HO8.out (by omega) hs8 ?_;intro v' w' ho hb _ _)
     go_roundw
     case rel=>exact ⟨k + 1,hlt,by go_num,by rw [HTK.out,List.filter_append];simpa [HF2.out] using ho,(hbl.trans (HB8.out.mono hsz)).trans hb⟩
     case measure=>simp [intOf];omega
  ·obtain rfl:k=ks.length:=by omega
   rw [List.take_length] at HO
   go_wp2
   go_ret
   rw [HM.out]
   exact MInts.row (HO.out.own hw02) (Nat.le_refl _) HWr.out
end Go.Proofs.YtioijfplbgpjpaaGreat
namespace Go.Proofs.YtioijfplbgpjpaaGreat
set_option linter.unusedVariables false
set_option linter.unusedSimpArgs false
set_option maxRecDepth 100000
open Go.RowKit
theorem cwith_mem {cs:List Carton} {u:Int} : 0≤cwith cs u↔u∈allU cs:=by
 have h:=idxF_any (hasU u) cs
 unfold cwith
 have e:(0≤idxF (hasU u) cs)↔cs.any (hasU u)=true:=by rw [← h,decide_eq_true_eq]
 rw [e,List.any_eq_true]
 unfold allU
 rw [List.mem_flatMap]
 constructor
 ·rintro ⟨c,hc,hu⟩
  refine ⟨c,hc,?_⟩
  unfold hasU at hu
  rw [List.any_eq_true] at hu
  obtain ⟨y,hy,he⟩:=hu
  simp at he
  rw [he];exact hy
 ·rintro ⟨c,hc,hu⟩
  exact ⟨c,hc,by unfold hasU;rw [List.any_eq_true];exact ⟨u,hu,by simp⟩⟩
theorem mov_mem {a b:Plan} {u:Int} : u∈mov a b↔(u∈allU a.cartons∧u∈allU b.cartons)∧¬ tog a u=tog b u:=by
 unfold mov
 rw [List.mem_filter,kindsM_mem]
 unfold movF
 simp only [Bool.and_eq_true,decide_eq_true_eq,Bool.not_eq_true',decide_eq_false_iff_not,cwith_mem]
 exact ⟨fun h=>⟨⟨h.1,h.2.1⟩,h.2.2⟩,fun h=>⟨h.1.1,h.1.2,h.2⟩⟩
end Go.Proofs.YtioijfplbgpjpaaGreat
namespace Go.Proofs.YtioijfplbgpjpaaGreat
set_option linter.unusedVariables false
set_option linter.unusedSimpArgs false
set_option maxRecDepth 100000
open Go.RowKit
end Go.Proofs.YtioijfplbgpjpaaGreat
namespace Go.Proofs.YtioijfplbgpjpaaGreat
set_option linter.unusedVariables false
set_option linter.unusedSimpArgs false
set_option maxRecDepth 100000
open Go.RowKit
end Go.Proofs.YtioijfplbgpjpaaGreat
namespace Go.Proofs.YtioijfplbgpjpaaGreat
set_option linter.unusedVariables false
set_option linter.unusedSimpArgs false
set_option maxRecDepth 100000
open Go.RowKit
end Go.Proofs.YtioijfplbgpjpaaGreat
namespace Go.Proofs.YtioijfplbgpjpaaGreat
set_option linter.unusedVariables false
set_option linter.unusedSimpArgs false
set_option maxRecDepth 100000
open Go.RowKit
def covB (r:Request) (x:Plan) (k z px py:Int) (i:Nat):Bool:=overB (boxAt r x i) (spotAt x i) point ⟨k,px,py,z⟩
def sign (i:Int):Int:=97 + i.tmod 26
def pixS (r:Request) (x:Plan) (k z px py:Int):Int:=if firstI (covB r x k z px py) (List.range x.cartons.length) < 0 then 46 else sign (firstI (covB r x k z px py) (List.range x.cartons.length))
section
variable {r:Request} {x:Plan} {k z px py:Int}
end
end Go.Proofs.YtioijfplbgpjpaaGreat
namespace Go.Proofs.YtioijfplbgpjpaaGreat
set_option linter.unusedVariables false
set_option linter.unusedSimpArgs false
set_option maxRecDepth 100000
open Go.RowKit
section
variable {r:Request} {x:Plan} {k z:Int}
end
end Go.Proofs.YtioijfplbgpjpaaGreat
namespace Go.Proofs.YtioijfplbgpjpaaGreat
set_option linter.unusedVariables false
set_option linter.unusedSimpArgs false
set_option maxRecDepth 100000
open Go.RowKit Go.WideShapes Go.ChangeShapes Go.ChangeAt Go.Deep
end Go.Proofs.YtioijfplbgpjpaaGreat
namespace Go.Proofs.YtioijfplbgpjpaaGreat
set_option linter.unusedVariables false
set_option linter.unusedSimpArgs false
set_option maxRecDepth 100000
open Go.RowKit Go.WideShapes Go.ChangeShapes Go.ChangeAt Go.Deep
end Go.Proofs.YtioijfplbgpjpaaGreat
namespace Go.Proofs.YtioijfplbgpjpaaGreat
set_option linter.unusedVariables false
set_option linter.unusedSimpArgs false
set_option maxRecDepth 100000
open Go.RowKit
def Spot.down (s:Spot):Spot:={ s with z:=s.z - 1 }
def fall (free:Spot→Bool):Nat→Spot→Spot
 |0,s=>s
 |f + 1,s=>if (decide (0 < s.z) && free s.down)=true then fall free f s.down else s
def Spot.under (s t:Spot):Prop:=s.pallet=t.pallet∧s.x=t.x∧s.y=t.y∧s.z≤t.z∧(0≤t.z→0≤s.z)
section
variable {r:Request} {x y:Plan}
end
end Go.Proofs.YtioijfplbgpjpaaGreat
namespace Go.Proofs.YtioijfplbgpjpaaGreat
set_option linter.unusedVariables false
set_option linter.unusedSimpArgs false
set_option maxRecDepth 100000
open Go.RowKit
end Go.Proofs.YtioijfplbgpjpaaGreat
namespace Go.Proofs.YtioijfplbgpjpaaGreat
set_option linter.unusedVariables false
set_option linter.unusedSimpArgs false
set_option maxRecDepth 100000
open Go.RowKit Go.WideShapes Go.ChangeShapes Go.ChangeAt Go.Deep
@[simp] abbrev cB5 (X:World) (b o m:Nat) (s:Box):Prop:=X.cell? ⟨b,o + m * 4,none⟩=some (.int .i64 s.w)∧X.cell? ⟨b,o + m * 4 + 1,none⟩=some (.int .i64 s.d)∧X.cell? ⟨b,o + m * 4 + 2,none⟩=some (.int .i64 s.h)∧X.cell? ⟨b,o + m * 4 + 3,none⟩=some (.int .i64 s.gram)
abbrev RBoxes (w:World) (B:Nat) (v:Value) (xs:List Box):Prop:=RL 16777216 4 (flat Box.cells) w B v xs
theorem RBoxes.one {w:World} {A:Option Addr} {n c:Nat} {xs:List Box} (h:RBoxes w w.heap.size (.slice A n c) xs) (i:Nat) (hi:i < xs.length) :
  ∃ b off s,A=some ⟨b,off,none⟩∧b < w.heap.size∧xs[i]? = some s∧Hid (∀ X:World,Below w.heap.size w X→cB5 X b off i s):=by
 obtain ⟨b,off,s,cs,rfl,hb,hx,_,rfl,hc⟩:=h.at_ i hi
 exact ⟨b,off,s,rfl,hb,hx,Lib.hid fun X hX=>⟨(hX.cell (p:=⟨b,_,none⟩) hb).trans (hc 0 _ rfl),(hX.cell (p:=⟨b,_,none⟩) hb).trans (hc 1 _ rfl),(hX.cell (p:=⟨b,_,none⟩) hb).trans (hc 2 _ rfl),(hX.cell (p:=⟨b,_,none⟩) hb).trans (hc 3 _ rfl)⟩⟩
end Go.Proofs.YtioijfplbgpjpaaGreat
namespace Go.Proofs.YtioijfplbgpjpaaGreat
set_option linter.unusedVariables false
set_option linter.unusedSimpArgs false
set_option maxRecDepth 100000
open Go.RowKit
def sumTo (f:Nat→Int):Nat→Int
 |0=>0
 |n + 1=>sumTo f n + f n
section
variable {r:Request} {x:Plan} {k:Int}
end
end Go.Proofs.YtioijfplbgpjpaaGreat
namespace Go.Proofs.YtioijfplbgpjpaaGreat
set_option linter.unusedVariables false
set_option linter.unusedSimpArgs false
set_option maxRecDepth 100000
open Go.RowKit
section
variable {r:Request} {x:Plan}
end
end Go.Proofs.YtioijfplbgpjpaaGreat
namespace Go.Proofs.YtioijfplbgpjpaaGreat
set_option linter.unusedVariables false
set_option linter.unusedSimpArgs false
set_option maxRecDepth 100000
open Go.RowKit Go.WideShapes Go.ChangeShapes Go.ChangeAt Go.Deep
end Go.Proofs.YtioijfplbgpjpaaGreat
namespace Go.Proofs.YtioijfplbgpjpaaGreat
set_option linter.unusedVariables false
set_option linter.unusedSimpArgs false
set_option maxRecDepth 100000
open Go.RowKit Go.WideShapes Go.ChangeShapes Go.ChangeAt Go.Deep
section
variable {w W:World} {l:List Fact} {B k j:Nat} {zs:List (List Int×Nat)} {z:List Int×Nat} {u:Int}
end
def grid (c:Nat→Nat→Int) (Wn Dn:Nat):List (List Int):=(List.range Dn).map fun y=>(List.range Wn).map fun q=>c q y
section
variable {c c':Nat→Nat→Int} {Wn Dn:Nat} {zs:List (List Int×Nat)} {z:List Int×Nat}
end
end Go.Proofs.YtioijfplbgpjpaaGreat
namespace Go.Proofs.YtioijfplbgpjpaaGreat
set_option linter.unusedVariables false
set_option linter.unusedSimpArgs false
set_option maxRecDepth 100000
open Go.RowKit Go.WideShapes Go.ChangeShapes Go.ChangeAt Go.Deep
set_option maxRecDepth 100000 in
set_option maxHeartbeats 40000000 in
theorem DrawCheck_any (v:Value) (xs:List Int) (w W:World) (L:List Fact) (hS:Sit w W L) (hx:RBytes w w.heap.size v xs):Calls Tryz.prog 67 #[v] W fun e w'=>∃ (u:Value) (r:Request) (fp:List Nat) (vc vs:Value) (x:Plan) (fq:List Nat) ,e=.returned (.tuple #[u,.agg #[vc,vs]])∧Sit w w' (fRq u r fp::fRp vc vs x fq::L)∧r.bulk≤80∧PlanSmall x:=by
 have HB:=Lib.hid hx
 have SN:=Lib.hid ((hS.alloc cZ 41).alloc #[.slice none 0 0,.slice none 0 0] 46)
 simp only [World.size_alloc] at SN
 clear hS hx
 go_enter Tryz.func67,Tryz.ntmps67
 go_upto_region 1 with fail
 generalize hW1:(W.alloc (.cells cZ 41)).alloc (.cells #[.slice none 0 0,.slice none 0 0] 46)=W1 at SN ⊢
 clear hW1
 go_wp2_with fail
 refine (l13Draw_any v xs _ _ _ SN.out HB.out).mono ?_
 rintro e w2 ⟨u,r,fp,vc,vs,x,fq,rfl,SN1,hbk,hsx⟩
 obtain ⟨vp,vt,vi,rfl,⟨A1,c1,rfl,_⟩,⟨A2,c2,rfl,_⟩,⟨A3,c3,rfl,_⟩⟩:=SN1.on _ (.head _)
 obtain ⟨zs2,hz2,⟨A7,c7,rfl,_⟩,_,⟨A8,c8,rfl,_⟩⟩:=RpOn.open (SN1.on _ (.tail _ (.head _)))
 have HZ2:=Lib.hid hz2
 have hbt:=SN1.boxlt (.tail _ (.tail _ (.head _)))
 clear hz2
 have k2:=SN1.box (g:=W.heap.size) (cs:=cZ) (t:=41) mq
 have f2:=SN1.free (g:=W.heap.size) (cs:=cZ) (t:=41) mq
 have k3:=SN1.box (g:=W.heap.size + 1) (cs:=#[.slice none 0 0,.slice none 0 0]) (t:=46) mq
 have f3:=SN1.free (g:=W.heap.size + 1) (cs:=#[.slice none 0 0,.slice none 0 0]) (t:=46) mq
 have SF:=Lib.hid (((((SN1.rot4).rot4).rot2).overL [.int .i64 r.way,.int .i64 r.pallet.w,.int .i64 r.pallet.d,.int .i64 r.pallet.h,.int .i64 r.pallet.gram,.int .i64 r.classes,.slice A1 r.pairs.length c1,.slice A2 r.types.length c2,.int .i64 r.master,.slice A3 r.items.length c3] 0).rot2.overL [.slice A7 zs2.length c7,.slice A8 x.spots.length c8] 0)
 go_wp2_with fail
 refine bodyPost_ret (v:=.tuple #[.agg (cR r A1 c1 A2 c2 A3 c3),.agg #[.slice A7 zs2.length c7,.slice A8 x.spots.length c8]]) (by simp [results,Tryz.results67,go_sem,k2,f2,k3,f3]) rfl ?_
 exact ⟨_,r,fp,_,_,x,_,rfl,SF.out.drop.drop,hbk,hsx⟩
set_option maxRecDepth 100000 in
set_option maxHeartbeats 40000000 in
theorem l23Unit_any (v:Value) (xs:List Int) (w W:World) (L:List Fact) (hS:Sit w W L) (hx:RBytes w w.heap.size v xs):Calls Tryz.prog 151 #[v] W fun e w'=>∃ vc vs x fq n,e=.returned (.tuple #[.agg #[vc,vs],.int .i64 n])∧Sit w w' (fRp vc vs x fq::L)∧PlanSmall x:=by
 have HB:=Lib.hid hx
 have SN:=Lib.hid (hS.alloc #[.slice none 0 0,.slice none 0 0] 46)
 clear hS hx
 go_enter Tryz.func151,Tryz.ntmps151
 go_wp2_with fail
 refine (l13Draw_any v xs _ _ _ SN.out HB.out).mono ?_
 rintro e w1 ⟨u,r,fp,vc,vs,x,fq,rfl,SN1,hbk,hsx⟩
 obtain ⟨vp,vt,vi,rfl,⟨A1,c1,rfl,_⟩,⟨A2,c2,rfl,_⟩,⟨A3,c3,rfl,_⟩⟩:=SN1.on _ (.head _)
 obtain ⟨zs2,hz2,⟨A7,c7,rfl,_⟩,_,⟨A8,c8,rfl,_⟩⟩:=RpOn.open (SN1.on _ (.tail _ (.head _)))
 have hbt:=SN1.boxlt (.tail _ (.tail _ (.head _)))
 have HSX:=Lib.hid hsx
 clear hz2 hsx hbk
 have SQ:=Lib.hid ((SN1.alloc (cR r A1 c1 A2 c2 A3 c3) 41).alloc #[.slice A7 zs2.length c7,.slice A8 x.spots.length c8] 46)
 simp only [World.size_alloc] at SQ
 obtain ⟨b4,hb4⟩:∃ b,w1.heap.size=b:=⟨_,rfl⟩
 rw [hb4] at SQ hbt
 clear SN SN1
 have SN:=SQ
 clear SQ
 go_upto_region 2 with fail
 generalize (w1.alloc (.cells (cR r A1 c1 A2 c2 A3 c3) 41)).alloc (.cells #[.slice A7 zs2.length c7,.slice A8 x.spots.length c8] 46)=W3 at SN ⊢
 clear hb4
 have hn1 : ¬ (W.heap.size=b4 + 1):=by omega
 have hn2 : ¬ (b4 + 1=W.heap.size):=by omega
 have k4:=SN.out.box (g:=b4 + 1) (cs:=#[.slice A7 zs2.length c7,.slice A8 x.spots.length c8]) (t:=46) mq;have k40:=k4 0;have k41:=k4 1;simp at k40 k41;have k2:=SN.out.box (g:=W.heap.size) (t:=46) (by repeat first | with_reducible exact List.mem_cons_self | with_reducible exact .head _ | refine .tail _ ?_);have f2:=SN.out.free (g:=W.heap.size) (t:=46) (by repeat first | with_reducible exact List.mem_cons_self | with_reducible exact .head _ | refine .tail _ ?_)
 refine regu (S:=(fun W'=>W'.cell? ⟨b4 + 1,0,none⟩=some (.slice A7 zs2.length c7)∧W'.cell? ⟨b4 + 1,1,none⟩=some (.slice A8 x.spots.length c8))) (by kernel_rfl) (fun _ _ _ _ _=>id) ?_ fun hHeld=>?_
 ·(first | exact ⟨k40,k41⟩ | go_keep)
 refine tku (b:=?_) [0,1] (by kernel_rfl) hHeld ?_ ?_
 rotate_left
 ·repeat first
  |exact .nil
  |refine .yes (v:=?_) rfl (by rfl) ?_ ?_
   rotate_left
   ·intro w9 hSw;(try dsimp only at hSw);go_simp;(try with_reducible rfl)
   (try simp only [aP,aZ,aS,aG,aH,aI])
 refine onu 2 rfl (by kernel_rfl) fun K hK=>?_
 go_simp
 ((go_at_call 134;refine Sit.cs SN.out fun SN0=>?_;(try simp only [World.size_alloc,World.size_drew] at SN0);refine (new_sit SN0 HB.out).mono ?_;rintro e w6 ⟨g,rfl,SN1⟩;have SN2:=Lib.hid SN1;clear SN SN0 SN1;have SN:=SN2;clear SN2;have k4:=SN.out.box (g:=b4 + 1) (cs:=#[.slice A7 zs2.length c7,.slice A8 x.spots.length c8]) (t:=46) mq;have k40:=k4 0;have k41:=k4 1;simp at k40 k41;have k2:=SN.out.box (g:=W.heap.size) (t:=46) (by repeat first | with_reducible exact List.mem_cons_self | with_reducible exact .head _ | refine .tail _ ?_);have f2:=SN.out.free (g:=W.heap.size) (t:=46) (by repeat first | with_reducible exact List.mem_cons_self | with_reducible exact .head _ | refine .tail _ ?_)))
 refine hK.out _ _ ?_ (fun hHeld=>?_)
 ·(first | exact ⟨k40,k41⟩ | go_keep)
 clear hK K
 (try simp only [aP,aZ,aS,aG,aH,aI])
 refine onu 3 rfl (by kernel_rfl) fun K hK=>?_
 go_simp
 ((go_at_call 133;refine Sit.cs SN.out fun SN0=>?_;(try simp only [World.size_alloc,World.size_drew] at SN0);refine (below_sit SN0 HB.out (by repeat first | with_reducible exact List.mem_cons_self | with_reducible exact .head _ | refine .tail _ ?_) _ (by omega)).mono ?_;rintro e w1 ⟨y,rfl,hy,SN1,T1⟩;clear hy;have SN2:=Lib.hid SN1;clear SN SN0 SN1 T1;have SN:=SN2;clear SN2;have k4:=SN.out.box (g:=b4 + 1) (cs:=#[.slice A7 zs2.length c7,.slice A8 x.spots.length c8]) (t:=46) mq;have k40:=k4 0;have k41:=k4 1;simp at k40 k41;have k2:=SN.out.box (g:=W.heap.size) (t:=46) (by repeat first | with_reducible exact List.mem_cons_self | with_reducible exact .head _ | refine .tail _ ?_);have f2:=SN.out.free (g:=W.heap.size) (t:=46) (by repeat first | with_reducible exact List.mem_cons_self | with_reducible exact .head _ | refine .tail _ ?_)))
 refine hK.out _ _ ?_ (fun hHeld=>?_)
 ·(first | exact ⟨k40,k41⟩ | go_keep)
 clear hK K
 (try simp only [aP,aZ,aS,aG,aH,aI])
 refine tku (b:=?_) [4] (by kernel_rfl) hHeld ?_ ?_
 rotate_left
 ·repeat first
  |exact .nil
  |refine .yes (v:=?_) rfl (by rfl) ?_ ?_
   rotate_left
   ·intro w9 hSw;(try dsimp only at hSw);go_simp;(try with_reducible rfl)
   (try simp only [aP,aZ,aS,aG,aH,aI])
 refine onu 5 rfl (by kernel_rfl) fun K hK=>?_
 go_simp
 refine hK.out _ _ ?_ (fun hHeld=>?_)
 ·(first | exact ⟨k40,k41⟩ | go_keep)
 clear hK K
 (try simp only [aP,aZ,aS,aG,aH,aI])
 refine lsu 6 rfl (by kernel_rfl) fun K hK=>?_
 go_simp
 refine hK.out _ _ ?_
 clear hK K
 (try simp only [aP,aZ,aS,aG,aH,aI])
 go_wp2_with fail
 refine bodyPost_ret (v:=.tuple #[.agg #[.slice A7 zs2.length c7,.slice A8 x.spots.length c8],.int .i64 (IntKind.i64.wrap (y - 1))]) (by simp [results,Tryz.results151,go_sem,k2,f2]) rfl ?_
 exact ⟨_,_,x,_,_,rfl,(((SN.out.sub (.cons _ (.cons _ (.cons _ (.cons _ (.cons_cons _ (.cons_cons _ (List.Sublist.refl _)))))))).rot2.overL [.slice A7 zs2.length c7,.slice A8 x.spots.length c8] 0).drop),HSX.out⟩
set_option maxRecDepth 100000 in
set_option maxHeartbeats 40000000 in
theorem DrawTogether_any (v:Value) (xs:List Int) (w W:World) (L:List Fact) (hS:Sit w W L) (hx:RBytes w w.heap.size v xs):Calls Tryz.prog 68 #[v] W fun e w'=>∃ vc vs x fq n,e=.returned (.tuple #[.agg #[vc,vs],.int .i64 n])∧Sit w w' (fRp vc vs x fq::L)∧PlanSmall x:=by
 have HB:=Lib.hid hx
 have SN:=Lib.hid (hS.alloc #[.slice none 0 0,.slice none 0 0] 46)
 clear hS hx
 go_enter Tryz.func68,Tryz.ntmps68
 go_wp2_with fail
 refine (l23Unit_any v xs _ _ _ SN.out HB.out).mono ?_
 rintro e w1 ⟨vc,vs,x,fq,n,rfl,SN1,hsx⟩
 obtain ⟨zs2,hz2,⟨A7,c7,rfl,_⟩,_,⟨A8,c8,rfl,_⟩⟩:=RpOn.open (SN1.on _ (.head _))
 have k2:=SN1.box (.tail _ (.head _))
 have f2:=SN1.free (.tail _ (.head _))
 have SF:=Lib.hid (SN1.rot2.overL [.slice A7 zs2.length c7,.slice A8 x.spots.length c8] 0)
 clear hz2
 go_wp2_with fail
 refine bodyPost_ret (v:=.tuple #[.agg #[.slice A7 zs2.length c7,.slice A8 x.spots.length c8],.int .i64 n]) (by simp [results,Tryz.results68,go_sem,k2,f2]) rfl ?_
 exact ⟨_,_,x,_,_,rfl,SF.out.drop,hsx⟩
end Go.Proofs.YtioijfplbgpjpaaGreat
namespace Go.Proofs.YtioijfplbgpjpaaGreat
set_option linter.unusedVariables false
set_option linter.unusedSimpArgs false
set_option maxRecDepth 100000
open Go.RowKit
section
variable {r:Request} {x:Plan} {l:List Nat}
end
end Go.Proofs.YtioijfplbgpjpaaGreat
namespace Go.Proofs.YtioijfplbgpjpaaGreat
set_option linter.unusedVariables false
set_option linter.unusedSimpArgs false
set_option maxRecDepth 100000
open Go.RowKit Go.WideShapes Go.ChangeShapes Go.ChangeAt Go.Deep
section
variable {x:Plan} {F:Nat→Spot→Spot} {k:Nat} {s:Spot}
end
end Go.Proofs.YtioijfplbgpjpaaGreat
namespace Go.Proofs.YtioijfplbgpjpaaGreat
set_option linter.unusedVariables false
set_option linter.unusedSimpArgs false
set_option maxRecDepth 100000
open Go.RowKit
end Go.Proofs.YtioijfplbgpjpaaGreat
namespace Go.Proofs.YtioijfplbgpjpaaGreat
set_option linter.unusedVariables false
set_option linter.unusedSimpArgs false
set_option maxRecDepth 100000
open Go.RowKit Go.WideShapes Go.ChangeShapes Go.ChangeAt Go.Deep
end Go.Proofs.YtioijfplbgpjpaaGreat
namespace Go.Proofs.YtioijfplbgpjpaaGreat
set_option linter.unusedVariables false
set_option linter.unusedSimpArgs false
set_option maxRecDepth 100000
open Go.RowKit
def DigInv (u v:Nat) (out:List UInt8):Prop:=if v=0 then out=Lib.decDigits u else Lib.decDigits u=Lib.decDigits v ++ out
theorem DigInv.start {u:Nat} (h:u ≠ 0):DigInv u u []:=by unfold DigInv;rw [if_neg h];simp
theorem DigInv.step {u v:Nat} {out:List UInt8} (h:DigInv u v out) (hv:v ≠ 0):DigInv u (v / 10) (UInt8.ofNat (48 + v % 10)::out):=by
 unfold DigInv at h ⊢
 rw [if_neg hv] at h
 by_cases h2:v < 10
 ·rw [if_pos (by omega),h,Lib.decDigits,dif_pos h2,Nat.mod_eq_of_lt h2];rfl
 ·rw [if_neg (by omega),h,Lib.decDigits,dif_neg h2];simp
theorem DigInv.done {u:Nat} {out:List UInt8} (h:DigInv u 0 out):out=Lib.decDigits u:=by unfold DigInv at h;rwa [if_pos rfl] at h
theorem DigInv.len {u v:Nat} {out:List UInt8} (h:DigInv u v out) (hu:u≤9223372036854775808):out.length≤21:=by
 have h1:(Lib.decDigits u).length≤21:=by
  rcases Nat.eq_zero_or_pos u with h0 | h0
  ·subst h0;decide +kernel
  ·have h2:=Lib.itoa_length_le (-(u:Int)) (by omega) (by omega)
   rw [Lib.itoa_neg u h0] at h2
   simp at h2
   omega
 unfold DigInv at h
 split at h
 ·rw [h];exact h1
 ·rw [h,List.length_append] at h1;omega
end Go.Proofs.YtioijfplbgpjpaaGreat
namespace Go.Proofs.YtioijfplbgpjpaaGreat
set_option linter.unusedVariables false
set_option linter.unusedSimpArgs false
set_option maxRecDepth 100000
open Go.RowKit Go.WideShapes Go.ChangeShapes Go.ChangeAt Go.Deep
end Go.Proofs.YtioijfplbgpjpaaGreat
namespace Go.Proofs.YtioijfplbgpjpaaGreat
set_option linter.unusedVariables false
set_option linter.unusedSimpArgs false
set_option maxRecDepth 100000
open Go.RowKit
section
variable {r:Request} {x:Plan} {k z:Int}
def drawn (r:Request) (x:Plan) (k z:Int) (W D:Nat):Int:=sumTo (fun py=>sumTo (fun px=>if pixS r x k z px py=46 then 0 else 1) W) D
end
end Go.Proofs.YtioijfplbgpjpaaGreat
namespace Go.Proofs.YtioijfplbgpjpaaGreat
set_option linter.unusedVariables false
set_option linter.unusedSimpArgs false
set_option maxRecDepth 100000
open Go.RowKit
section
variable {r:Request} {x:Plan}
end
end Go.Proofs.YtioijfplbgpjpaaGreat
namespace Go.Proofs.YtioijfplbgpjpaaGreat
set_option linter.unusedVariables false
set_option linter.unusedSimpArgs false
set_option maxRecDepth 100000
open Go.RowKit
section
variable {r:Request} {x:Plan} {order:List Int}
end
end Go.Proofs.YtioijfplbgpjpaaGreat
namespace Go.Proofs.YtioijfplbgpjpaaGreat
set_option linter.unusedVariables false
set_option linter.unusedSimpArgs false
set_option maxRecDepth 100000
open Go.RowKit
theorem cwith_iff {cs:List Carton} {u:Int} : 0≤cwith cs u↔u∈allU cs:=by
 have h:=idxF_any (hasU u) cs
 unfold cwith
 have e:(0≤idxF (hasU u) cs)↔cs.any (hasU u)=true:=by rw [← h,decide_eq_true_eq]
 rw [e,List.any_eq_true]
 unfold allU
 rw [List.mem_flatMap]
 constructor
 ·rintro ⟨c,hc,hu⟩
  refine ⟨c,hc,?_⟩
  unfold hasU at hu
  rw [List.any_eq_true] at hu
  obtain ⟨y,hy,he⟩:=hu
  simp at he
  rw [he];exact hy
 ·rintro ⟨c,hc,hu⟩
  exact ⟨c,hc,by unfold hasU;rw [List.any_eq_true];exact ⟨u,hu,by simp⟩⟩
theorem hasU_mem {u:Int} {c:Carton} : hasU u c=true↔u∈c.units:=by
 unfold hasU
 rw [List.any_eq_true]
 exact ⟨fun ⟨y,hy,he⟩=>by simp at he;rw [he];exact hy,fun h=>⟨u,h,by simp⟩⟩
theorem cwith_carton {cs:List Carton} {u:Int} (h:u∈allU cs):∃ (j:Nat) (c:Carton),cwith cs u=j∧cs[j]? = some c∧u∈c.units:=by
 have h0:=cwith_iff.2 h
 unfold cwith idxF at *
 cases hf:cs.findIdx? (hasU u) with
 |none=>rw [hf] at h0;simp at h0
 |some i =>
  obtain ⟨h1,h2,_⟩:=List.findIdx?_eq_some_iff_getElem.1 hf
  exact ⟨i,cs[i],rfl,List.getElem?_eq_getElem h1,hasU_mem.1 h2⟩
section
variable {r:Request} {x:Plan}
theorem flat_nodup (h:feasible r x=true):(allU x.cartons).Nodup:=(unitsFit_perm.1 (feasible_iff.1 h).2.2.2.1).nodup_iff.2 (intsN_nodup _)
theorem flat_mem (h:feasible r x=true) {u:Int} : u∈allU x.cartons↔0≤u∧u < (unitsR r).length:=by
 have:=(unitsFit_perm.1 (feasible_iff.1 h).2.2.2.1).mem_iff (a:=u)
 rw [intsN_mem] at this
 exact this
theorem unitsC_sound (h:feasible r x=true):unitsC r=unitsR r:=by unfold unitsC;rw [if_pos (feasible_iff.1 h).1]
theorem carton_one:∀ (cs:List Carton),(allU cs).Nodup→∀ {c d:Carton} {u:Int},c∈cs→d∈cs→u∈c.units→u∈d.units→c=d
 |[],_,_,_,_,h,_,_,_=>by simp at h
 |a::cs,hn,c,d,u,hc,hd,hcu,hdu=>by
  have hn2:(a.units ++ allU cs).Nodup:=hn
  rw [List.nodup_append] at hn2
  rcases List.mem_cons.1 hc with rfl | hc2
  ·rcases List.mem_cons.1 hd with rfl | hd2
   ·rfl
   ·exact (hn2.2.2 u hcu u (List.mem_flatMap.2 ⟨d,hd2,hdu⟩) rfl).elim
  ·rcases List.mem_cons.1 hd with rfl | hd2
   ·exact (hn2.2.2 u hdu u (List.mem_flatMap.2 ⟨c,hc2,hcu⟩) rfl).elim
   ·exact carton_one cs hn2.2.1 hc2 hd2 hcu hdu
theorem tog_carton {p:Plan} {u:Int} (hn:(allU p.cartons).Nodup) {c:Carton} (hc:c∈p.cartons) (hu:u∈c.units):tog p u=(sortI c.units).filter fun y=>!decide (y=u):=by
 obtain ⟨j,d,h1,h2,h3⟩:=cwith_carton (List.mem_flatMap.2 ⟨c,hc,hu⟩:u∈allU p.cartons)
 have hd:=List.mem_of_getElem? h2
 have e:=carton_one _ hn hd hc h3 hu
 unfold tog
 rw [h1,if_neg (by omega),Int.toNat_natCast]
 rw [List.getD_eq_getElem?_getD,h2]
 show (sortI d.units).filter _=_
 rw [e]
theorem found (h:feasible r x=true) {u:Int} (hu:0≤u∧u < ((unitsR r).length:Int)):∃ (j:Nat) (c:Carton),cwith x.cartons u=j∧x.cartons[j]? = some c∧c.units.count u=1∧(tog x u).length + 1=c.units.length:=by
 have hn:=flat_nodup h
 obtain ⟨j,c,h1,h2,h3⟩:=cwith_carton ((flat_mem h).2 hu)
 have hc:=List.mem_of_getElem? h2
 have hcn:c.units.Nodup:=by
  have:∀ cs:List Carton,(allU cs).Nodup→∀ c∈cs,c.units.Nodup:=by
   intro cs
   induction cs with
   |nil=>intro _ c hc;simp at hc
   |cons a cs ih =>
    intro hn c hc
    have hn2:(a.units ++ allU cs).Nodup:=hn
    rw [List.nodup_append] at hn2
    rcases List.mem_cons.1 hc with rfl | hc
    ·exact hn2.1
    ·exact ih hn2.2.1 c hc
  exact this _ hn c hc
 refine ⟨j,c,h1,h2,by rw [hcn.count,if_pos h3],?_⟩
 rw [tog_carton hn hc h3]
 have hs:(sortI c.units).Nodup:=(sortI_perm c.units).nodup_iff.2 hcn
 have hm:u∈sortI c.units:=sortI_mem.2 h3
 have:∀ l:List Int,l.Nodup→u∈l→(l.filter fun y=>!decide (y=u)).length + 1=l.length:=by
  intro l
  induction l with
  |nil=>intro _ h;simp at h
  |cons a l ih =>
   intro hn h
   have hn2:=List.nodup_cons.1 hn
   rw [List.filter_cons]
   by_cases e:a=u
   ·subst e
    have hf:l.filter (fun y=>!decide (y=a))=l:=by
     rw [List.filter_eq_self]
     intro y hy
     have:y ≠ a:=fun e=>hn2.1 (e ▸ hy)
     simpa using this
    simp only [decide_true,Bool.not_true,Bool.false_eq_true,if_false]
    rw [hf];simp
   ·have:=ih hn2.2 ((List.mem_cons.1 h).resolve_left (fun h=>e h.symm))
    have hd:decide (a=u)=false:=decide_eq_false e
    simp only [hd,Bool.not_false,if_true,List.length_cons]
    omega
 rw [this _ hs hm,sortI_length]
theorem found_not (h:feasible r x=true):cwith x.cartons ((unitsR r).length:Int) = -1:=by
 have h1 : ¬ 0≤cwith x.cartons ((unitsR r).length:Int):=fun hc=>by
  have:=(flat_mem h).1 (cwith_iff.1 hc)
  omega
 have:=(idxF_lt (hasU ((unitsR r).length:Int)) x.cartons).1
 unfold cwith at *
 omega
end
end Go.Proofs.YtioijfplbgpjpaaGreat
namespace Go.Proofs.YtioijfplbgpjpaaGreat
set_option linter.unusedVariables false
set_option linter.unusedSimpArgs false
set_option maxRecDepth 100000
open Go.RowKit Go.WideShapes Go.ChangeShapes Go.ChangeAt Go.Deep
theorem unitsC_le (r:Request):(unitsC r).length≤12:=by
 unfold unitsC
 split
 ·rename_i hs;exact (right_of hs).nunits
 ·simp
set_option maxRecDepth 100000 in
set_option maxHeartbeats 400000 in
theorem times_any (v:Value) (xs:List Int) (u:Int) (w:World) (h:RInts 16777216 w w.heap.size v xs):Calls Tryz.prog 64 #[v,.int .i64 u] w fun e w'=>e=.returned (.int .i64 (xs.count u))∧w=w':=by
 obtain ⟨A,c,rfl,hbd,_⟩:=id h
 have H:=Lib.hid h
 clear h
 go_enter Tryz.func64,Tryz.ntmps64
 go_wp2
 go_loop [5,6] (fun nn i=>∃ k:Nat,k≤xs.length∧i=.int .i64 k∧nn=.int .i64 ((xs.take k).count u)) (fun _ i=>xs.length - (intOf i).toNat)
 case atStart=>exact ⟨0,Nat.zero_le _,rfl,rfl⟩
 case round =>
  obtain ⟨k,hk,rfl,rfl⟩:=hrel
  have hcl:(xs.take k).count u≤xs.length:=Nat.le_trans List.count_le_length (by rw [List.length_take];omega)
  by_cases hlt:k < xs.length
  ·obtain ⟨b,off,x,rfl,hb,hx,hc⟩:=H.out.at1 k hlt
   have hc0:=hc _ rfl
   have HST:=Lib.hid (show (xs.take (k + 1)).count u=(xs.take k).count u + (if x=u then 1 else 0) by
    rw [List.take_add_one,hx,List.count_append]
    simp [List.count_cons])
   obtain ⟨n,hn⟩:∃ n,(xs.take k).count u=n:=⟨_,rfl⟩
   rw [hn] at HST hcl ⊢
   clear hc hx hn
   by_cases hxu:x=u
   ·subst hxu
    go_wp2
    go_round
    case rel=>exact ⟨k + 1,hlt,by go_num,by rw [HST.out,if_pos rfl];rfl⟩
    case measure=>simp [intOf];omega
   ·have hd:(x == u)=false:=beq_eq_false_iff_ne.2 hxu
    go_wp2
    go_round
    case rel=>exact ⟨k + 1,hlt,by go_num,by rw [HST.out,if_neg hxu];rfl⟩
    case measure=>simp [intOf];omega
  ·obtain rfl:k=xs.length:=by omega
   rw [List.take_length]
   go_wp2
   go_ret
   exact ⟨rfl,rfl⟩
end Go.Proofs.YtioijfplbgpjpaaGreat
