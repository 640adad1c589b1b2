/-
  Words and walks that these laws need beyond the others': see each theorem.
-/
import Derived.Test.YtioijfplbgpjpaaGreatKu00
import Derived.Test.YtioijfplbgpjpaaGreatKu01
import Derived.Test.YtioijfplbgpjpaaGreatKu02
import Derived.Test.YtioijfplbgpjpaaGreatKu43
import Derived.Test.YtioijfplbgpjpaaGreatKu03
import Derived.Test.YtioijfplbgpjpaaGreatKu04
import Derived.Test.YtioijfplbgpjpaaGreatKu05
import Derived.Test.YtioijfplbgpjpaaGreatKu06
import Derived.Test.YtioijfplbgpjpaaGreatKu09
import Derived.Test.YtioijfplbgpjpaaGreatKu22
import Derived.Test.YtioijfplbgpjpaaGreatKu24
import Derived.Test.YtioijfplbgpjpaaGreatKu25
import Derived.Test.YtioijfplbgpjpaaGreatKu10
import Derived.Test.YtioijfplbgpjpaaGreatKu11
import Derived.Test.YtioijfplbgpjpaaGreatKu26
import Derived.Test.YtioijfplbgpjpaaGreatKu29
import Derived.Test.YtioijfplbgpjpaaGreatKu27
import Derived.Test.YtioijfplbgpjpaaGreatKu28
import Derived.Test.YtioijfplbgpjpaaGreatKu30
import Derived.Test.YtioijfplbgpjpaaGreatKu31
import Derived.Test.YtioijfplbgpjpaaGreatKu33
import Derived.Test.YtioijfplbgpjpaaGreatKu35
import Derived.Test.YtioijfplbgpjpaaGreatKu07
import Derived.Test.YtioijfplbgpjpaaGreatKu08
import Derived.Test.YtioijfplbgpjpaaGreatKu12
import Derived.Test.YtioijfplbgpjpaaGreatKu13
import Derived.Test.YtioijfplbgpjpaaGreatKu14
import Derived.Test.YtioijfplbgpjpaaGreatKu15
import Derived.Test.YtioijfplbgpjpaaGreatKu16
import Derived.Test.YtioijfplbgpjpaaGreatKu17
import Derived.Test.YtioijfplbgpjpaaGreatKu18
import Derived.Test.YtioijfplbgpjpaaGreatKu19
import Derived.Test.YtioijfplbgpjpaaGreatKu20
import Derived.Test.YtioijfplbgpjpaaGreatKu23
import Derived.Test.YtioijfplbgpjpaaGreatKu21
import Derived.Test.YtioijfplbgpjpaaGreatKu32
import Derived.WalkKit
import Derived.WalkSpells
import Derived.WalkLawsBesides
import Derived.BigQuiet
import Derived.Deep.QuietTactic
import Derived.IntWalk
import Derived.Lib.Hide
import Derived.Laws.OwnMore
import Derived.Deep.Draws
import Derived.Deep.RegionHeld3
import Derived.Maps.AppendAt
import Derived.Deep.AppendLies
import Derived.RegionTactic
import Derived.OwnWalk
import Derived.ProofKit
import Derived.OpenShut
import Derived.ShutString
import Derived.WideKeyArgs
import Derived.Carry
import Derived.Deep.Slices
import Derived.Deep.Fields
import Derived.Deep.Strs
import Derived.ChangeSame
import Derived.Deep.Light
import Derived.Laws.StructEq
import Derived.Sort.OwnSortedInts
import Derived.StillTail
import Derived.Deep.RegionHeld
import Derived.Deep.RegionLaw
import Derived.Deep.DeepCutAuto
import Derived.Deep.RegionWith
import Derived.StillTailTactics
import Derived.Laws.CopyOwn
import Derived.Laws.IdiomStrings
import Derived.Lib.ItoaLen
import Derived.Lib.SmallJoins
import Derived.Laws.BytesString
import Derived.Deep.CutBlock
namespace Go.Proofs.YtioijfplbgpjpaaGreat
set_option linter.unusedVariables false
set_option linter.unusedSimpArgs false
set_option maxRecDepth 100000
open Go.RowKit Go.WideShapes Go.ChangeShapes Go.ChangeAt Go.Deep
section
variable {H:Type} {enc:TypeId×Value→H} {P:Program} {w:World} {held:Bool}
end
end Go.Proofs.YtioijfplbgpjpaaGreat
namespace Go.Proofs.YtioijfplbgpjpaaGreat
set_option linter.unusedVariables false
set_option linter.unusedSimpArgs false
set_option maxRecDepth 100000
open Go.RowKit
section
variable {w W W':World} {l l1 l2:List Fact} {q q':Fact}
end
section
variable {w W W':World} {l l1 l2:List Fact} {g:Nat} {cs:Array Value} {t:TypeId} {v:Value} {r:Request} {fp:List Nat} {b:Nat}
end
section
variable {w W W':World} {l:List Fact} {q q2:Fact} {g B:Nat} {t:TypeId} {v:Value} {r:Request} {fp:List Nat}
end
section
variable {w W W':World} {l l1 l2:List Fact} {g b j:Nat} {cs:Array Value} {t:TypeId} {u v v':Value} {r r':Request} {fp:List Nat}
end
end Go.Proofs.YtioijfplbgpjpaaGreat
namespace Go.Proofs.YtioijfplbgpjpaaGreat
set_option linter.unusedVariables false
set_option linter.unusedSimpArgs false
set_option maxRecDepth 100000
open Go.RowKit
section
variable {w W W':World} {l l1 l2:List Fact} {q q':Fact}
end
section
variable {α:Type} {f:α→List Value} {e K base:Nat} {w W W':World} {l:List Fact} {v v':Value} {xs xs':List α} {fp:List Nat}
end
section
variable {α:Type} {f:α→List Value} {e K base:Nat} {w W W':World} {l:List Fact} {v:Value} {xs:List α} {fp:List Nat} {g n c k j:Nat} {x y:α} {us:List Value}
end
section
variable {α:Type} {F:α→α} {xs:List α} {k:Nat} {x:α}
end
end Go.Proofs.YtioijfplbgpjpaaGreat
namespace Go.Proofs.YtioijfplbgpjpaaGreat
set_option linter.unusedVariables false
set_option linter.unusedSimpArgs false
set_option maxRecDepth 100000
open Go.RowKit
end Go.Proofs.YtioijfplbgpjpaaGreat
namespace Go.Proofs.YtioijfplbgpjpaaGreat
set_option linter.unusedVariables false
set_option linter.unusedSimpArgs false
set_option maxRecDepth 100000
open Go.RowKit
end Go.Proofs.YtioijfplbgpjpaaGreat
namespace Go.Proofs.YtioijfplbgpjpaaGreat
set_option linter.unusedVariables false
set_option linter.unusedSimpArgs false
set_option maxRecDepth 100000
open Go.RowKit
section
variable {w W W':World} {l l':List Fact}
end
section
variable {α:Type} {f:α→List Value} {e K base:Nat} {w w':World} {v:Value} {xs:List α} {fp:List Nat} {g n c k:Nat} {x:α}
end
section
variable {α:Type} {inn:α→List Int} {w W W':World} {base B:Nat} {zs zs':List (α×Value)} {fp fp':List Nat} {l:List Fact} {k:Nat} {z:α×Value} {a:α} {v:Value} {ys:List Int}
end
end Go.Proofs.YtioijfplbgpjpaaGreat
namespace Go.Proofs.YtioijfplbgpjpaaGreat
set_option linter.unusedVariables false
set_option linter.unusedSimpArgs false
set_option maxRecDepth 100000
open Go.RowKit
section
variable {α:Type} {hd:α→Value→List Value} {inn:α→List Int}
end
end Go.Proofs.YtioijfplbgpjpaaGreat
namespace Go.Proofs.YtioijfplbgpjpaaGreat
set_option linter.unusedVariables false
set_option linter.unusedSimpArgs false
set_option maxRecDepth 100000
open Go.RowKit
section
variable {α:Type} {f:α→List Value} {e K:Nat} {w W W':World} {l:List Fact} {b:Nat} {v:Value} {xs:List α} {fp:List Nat}
end
section
variable {α:Type} {hd:α→Value→List Value} {inn:α→List Int} {e K B:Nat} {w W1 W2 W3 W:World} {l:List Fact} {u v v':Value} {zs:List (α×Value)} {f f1 f2 f3:List Nat} {x:α} {ys:List Int} {g n c k j:Nat} {us:List Value}
end
end Go.Proofs.YtioijfplbgpjpaaGreat
namespace Go.Proofs.YtioijfplbgpjpaaGreat
set_option linter.unusedVariables false
set_option linter.unusedSimpArgs false
set_option maxRecDepth 100000
open Go.RowKit
end Go.Proofs.YtioijfplbgpjpaaGreat
namespace Go.Proofs.YtioijfplbgpjpaaGreat
set_option linter.unusedVariables false
set_option linter.unusedSimpArgs false
set_option maxRecDepth 100000
open Go.RowKit
end Go.Proofs.YtioijfplbgpjpaaGreat
namespace Go.Proofs.YtioijfplbgpjpaaGreat
set_option linter.unusedVariables false
set_option linter.unusedSimpArgs false
set_option maxRecDepth 100000
open Go.RowKit
set_option maxRecDepth 100000
end Go.Proofs.YtioijfplbgpjpaaGreat
namespace Go.Proofs.YtioijfplbgpjpaaGreat
set_option linter.unusedVariables false
set_option linter.unusedSimpArgs false
set_option maxRecDepth 100000
open Go.RowKit
end Go.Proofs.YtioijfplbgpjpaaGreat
namespace Go.Proofs.YtioijfplbgpjpaaGreat
set_option linter.unusedVariables false
set_option linter.unusedSimpArgs false
set_option maxRecDepth 100000
open Go.RowKit
end Go.Proofs.YtioijfplbgpjpaaGreat
namespace Go.Proofs.YtioijfplbgpjpaaGreat
set_option linter.unusedVariables false
set_option linter.unusedSimpArgs false
set_option maxRecDepth 100000
open Go.RowKit
section
variable {α:Type} {f:α→List Value} {inn:α→List Int} {W:World} {e K base n c g i k:Nat} {F:Option Addr} {xs:List α} {zs:List (α×Value)} {fp:List Nat} {x a:α} {u:Value} {y:Int}
end
end Go.Proofs.YtioijfplbgpjpaaGreat
namespace Go.Proofs.YtioijfplbgpjpaaGreat
set_option linter.unusedVariables false
set_option linter.unusedSimpArgs false
set_option maxRecDepth 100000
section
variable {P:Program} {ops:Array Oper} {Q:Exit→Act→World→Prop} {S:World→Prop}
end
section
variable {P:Program} {ops:Array Oper} {Q:Exit→Act→World→Prop} {S:World→Prop} {listed l':Array Bool} {a b:Act} {w:World} {oi:Oper} {v:Value} {i:Nat} {rs:List Nat}
end
section
end
end Go.Proofs.YtioijfplbgpjpaaGreat
namespace Go.Proofs.YtioijfplbgpjpaaGreat
set_option linter.unusedVariables false
set_option linter.unusedSimpArgs false
set_option maxRecDepth 100000
open Go.RowKit
end Go.Proofs.YtioijfplbgpjpaaGreat
namespace Go.Proofs.YtioijfplbgpjpaaGreat
set_option linter.unusedVariables false
set_option linter.unusedSimpArgs false
set_option maxRecDepth 100000
open Go.RowKit
end Go.Proofs.YtioijfplbgpjpaaGreat
namespace Go.Proofs.YtioijfplbgpjpaaGreat
set_option linter.unusedVariables false
set_option linter.unusedSimpArgs false
set_option maxRecDepth 100000
open Go.RowKit
def hasU (u:Int) (c:Carton):Bool:=c.units.any fun y=>u == y
def cwith (xs:List Carton) (u:Int):Int:=idxF (hasU u) xs
set_option maxHeartbeats 400000 in
theorem cartonWith1_any (x:Carton) (v:Value) (u:Int) (b:Nat) (w:World) (hr:RInts 16777216 w w.heap.size v x.units) (hc:w.cell? ⟨b,0,none⟩=some (.int .i64 u)) :
  Calls Tryz.prog 130 #[.agg #[.int .i64 x.type,.int .i64 x.group,v],.pointer (some ⟨b,0,none⟩)] w fun e w'=>e=.returned (.bool (hasU u x))∧Below w.heap.size w w':=by
 have hb:=World.block_lt_of_cell? w _ hc
 have HR:=Lib.hid hr
 clear hr
 go_enter Tryz.func130,Tryz.ntmps130
 go_wp2_with fail
 refine (containsInt_any v x.units u _ (HR.out.next (flat_mono _) ((Below.refl _ _).alloc (Nat.le_refl _) _))).mono ?_
 rintro e w' ⟨rfl,rfl⟩
 go_wp2
 go_ret
 exact ⟨rfl,(by repeat' with_reducible first | assumption | exact bR | apply bD | apply bA | apply bC | apply bN | simp <;> omega)⟩
set_option maxHeartbeats 400000 in
theorem iCartonWith_any (v:Value) (p:Plan) (u:Int) (w:World) (h:RPlan 16777216 w w.heap.size v p) :
  Calls Tryz.prog 49 #[v,.int .i64 u] w fun e w'=>e=.returned (.int .i64 (cwith p.cartons u))∧Below w.heap.size w w':=by
 obtain ⟨v1,v2,rfl,h1,_⟩:=h
 have H:=Lib.hid h1
 clear h1
 have hb0:Below w.heap.size w ((w.alloc (.cells #[v1,v2] 46)).alloc (.cells #[.int .i64 u] 3)):=(by repeat' with_reducible first | assumption | exact bR | apply bD | apply bA | apply bC | apply bN | simp <;> omega)
 have hq:((w.alloc (.cells #[v1,v2] 46)).alloc (.cells #[.int .i64 u] 3)).cell? ⟨w.heap.size + 1,0,none⟩=some (.int .i64 u):=by simp
 go_enter Tryz.func49,Tryz.ntmps49
 go_wp2_with fail
 refine (indexFuncCarton_any 130 #[.pointer (some ⟨w.heap.size + 1,0,none⟩)] (hasU u) v1 p.cartons _ (H.out.next (RCarton_mono _) hb0) (run_enter Tryz.func130 (by kernel_rfl) (by kernel_rfl))
  (fun W x vx hW hr=>cartonWith1_any x vx u (w.heap.size + 1) W hr ((hW.cell (p:=⟨w.heap.size + 1,0,none⟩) (by simp)).trans hq))).mono ?_
 rintro e w2 ⟨rfl,hb2⟩
 go_wp2
 go_ret
 exact ⟨rfl,bstep hb0 hb2⟩
end Go.Proofs.YtioijfplbgpjpaaGreat
namespace Go.Proofs.YtioijfplbgpjpaaGreat
set_option linter.unusedVariables false
set_option linter.unusedSimpArgs false
set_option maxRecDepth 100000
open Go.RowKit
end Go.Proofs.YtioijfplbgpjpaaGreat
namespace Go.Proofs.YtioijfplbgpjpaaGreat
set_option linter.unusedVariables false
set_option linter.unusedSimpArgs false
set_option maxRecDepth 100000
open Go.RowKit
end Go.Proofs.YtioijfplbgpjpaaGreat
namespace Go.Proofs.YtioijfplbgpjpaaGreat
set_option linter.unusedVariables false
set_option linter.unusedSimpArgs false
set_option maxRecDepth 100000
open Go.RowKit
end Go.Proofs.YtioijfplbgpjpaaGreat
namespace Go.Proofs.YtioijfplbgpjpaaGreat
set_option linter.unusedVariables false
set_option linter.unusedSimpArgs false
set_option maxRecDepth 100000
open Go.RowKit
end Go.Proofs.YtioijfplbgpjpaaGreat
namespace Go.Proofs.YtioijfplbgpjpaaGreat
set_option linter.unusedVariables false
set_option linter.unusedSimpArgs false
set_option maxRecDepth 100000
open Go.RowKit
end Go.Proofs.YtioijfplbgpjpaaGreat
namespace Go.Proofs.YtioijfplbgpjpaaGreat
set_option linter.unusedVariables false
set_option linter.unusedSimpArgs false
set_option maxRecDepth 100000
open Go.RowKit Go.WideShapes Go.ChangeShapes Go.ChangeAt Go.Deep
end Go.Proofs.YtioijfplbgpjpaaGreat
namespace Go.Proofs.YtioijfplbgpjpaaGreat
set_option linter.unusedVariables false
set_option linter.unusedSimpArgs false
set_option maxRecDepth 100000
open Go.RowKit Go.Deep
end Go.Proofs.YtioijfplbgpjpaaGreat
namespace Go.Proofs.YtioijfplbgpjpaaGreat
set_option linter.unusedVariables false
set_option linter.unusedSimpArgs false
set_option maxRecDepth 100000
open Go.RowKit Go.Deep
end Go.Proofs.YtioijfplbgpjpaaGreat
namespace Go.Proofs.YtioijfplbgpjpaaGreat
set_option linter.unusedVariables false
set_option linter.unusedSimpArgs false
set_option maxRecDepth 100000
open Go.RowKit
def tog (p:Plan) (u:Int):List Int:=if cwith p.cartons u < 0 then [] else (sortI (p.cartons.getD (cwith p.cartons u).toNat default).units).filter fun y=>!decide (y=u)
end Go.Proofs.YtioijfplbgpjpaaGreat
namespace Go.Proofs.YtioijfplbgpjpaaGreat
set_option linter.unusedVariables false
set_option linter.unusedSimpArgs false
set_option maxRecDepth 100000
open Go.RowKit
end Go.Proofs.YtioijfplbgpjpaaGreat
namespace Go.Proofs.YtioijfplbgpjpaaGreat
set_option linter.unusedVariables false
set_option linter.unusedSimpArgs false
set_option maxRecDepth 100000
open Go.RowKit
def covB (r:Request) (x:Plan) (k z px py:Int) (i:Nat):Bool:=overB (boxAt r x i) (spotAt x i) point ⟨k,px,py,z⟩
def sign (i:Int):Int:=97 + i.tmod 26
def pixS (r:Request) (x:Plan) (k z px py:Int):Int:=if firstI (covB r x k z px py) (List.range x.cartons.length) < 0 then 46 else sign (firstI (covB r x k z px py) (List.range x.cartons.length))
section
variable {r:Request} {x:Plan} {k z px py:Int}
end
end Go.Proofs.YtioijfplbgpjpaaGreat
namespace Go.Proofs.YtioijfplbgpjpaaGreat
set_option linter.unusedVariables false
set_option linter.unusedSimpArgs false
set_option maxRecDepth 100000
open Go.RowKit
section
variable {r:Request} {x:Plan} {k z:Int}
end
end Go.Proofs.YtioijfplbgpjpaaGreat
namespace Go.Proofs.YtioijfplbgpjpaaGreat
set_option linter.unusedVariables false
set_option linter.unusedSimpArgs false
set_option maxRecDepth 100000
open Go.RowKit Go.WideShapes Go.ChangeShapes Go.ChangeAt Go.Deep
end Go.Proofs.YtioijfplbgpjpaaGreat
namespace Go.Proofs.YtioijfplbgpjpaaGreat
set_option linter.unusedVariables false
set_option linter.unusedSimpArgs false
set_option maxRecDepth 100000
open Go.RowKit Go.WideShapes Go.ChangeShapes Go.ChangeAt Go.Deep
theorem rng_step {p:Nat→Bool} {j:Nat} {f:Bool} (h:p j=f):((List.range (j + 1)).filter p).map Int.ofNat=((List.range j).filter p).map Int.ofNat ++ (if f=true then [(j:Int)] else []):=by
 rw [List.range_succ,List.filter_append,List.map_append]
 cases f <;> simp [List.filter_cons,h]
theorem range_le (p:Nat→Bool) (j:Nat):(((List.range j).filter p).map Int.ofNat).length≤j:=by
 rw [List.length_map];exact Nat.le_trans (List.length_filter_le _ _) (by simp)
end Go.Proofs.YtioijfplbgpjpaaGreat
namespace Go.Proofs.YtioijfplbgpjpaaGreat
set_option linter.unusedVariables false
set_option linter.unusedSimpArgs false
set_option maxRecDepth 100000
open Go.RowKit
section
variable {r:Request} {x y:Plan}
end
end Go.Proofs.YtioijfplbgpjpaaGreat
namespace Go.Proofs.YtioijfplbgpjpaaGreat
set_option linter.unusedVariables false
set_option linter.unusedSimpArgs false
set_option maxRecDepth 100000
open Go.RowKit
end Go.Proofs.YtioijfplbgpjpaaGreat
namespace Go.Proofs.YtioijfplbgpjpaaGreat
set_option linter.unusedVariables false
set_option linter.unusedSimpArgs false
set_option maxRecDepth 100000
open Go.RowKit Go.WideShapes Go.ChangeShapes Go.ChangeAt Go.Deep
@[simp] abbrev cB5 (X:World) (b o m:Nat) (s:Box):Prop:=X.cell? ⟨b,o + m * 4,none⟩=some (.int .i64 s.w)∧X.cell? ⟨b,o + m * 4 + 1,none⟩=some (.int .i64 s.d)∧X.cell? ⟨b,o + m * 4 + 2,none⟩=some (.int .i64 s.h)∧X.cell? ⟨b,o + m * 4 + 3,none⟩=some (.int .i64 s.gram)
abbrev RBoxes (w:World) (B:Nat) (v:Value) (xs:List Box):Prop:=RL 16777216 4 (flat Box.cells) w B v xs
theorem RBoxes.one {w:World} {A:Option Addr} {n c:Nat} {xs:List Box} (h:RBoxes w w.heap.size (.slice A n c) xs) (i:Nat) (hi:i < xs.length) :
  ∃ b off s,A=some ⟨b,off,none⟩∧b < w.heap.size∧xs[i]? = some s∧Hid (∀ X:World,Below w.heap.size w X→cB5 X b off i s):=by
 obtain ⟨b,off,s,cs,rfl,hb,hx,_,rfl,hc⟩:=h.at_ i hi
 exact ⟨b,off,s,rfl,hb,hx,Lib.hid fun X hX=>⟨(hX.cell (p:=⟨b,_,none⟩) hb).trans (hc 0 _ rfl),(hX.cell (p:=⟨b,_,none⟩) hb).trans (hc 1 _ rfl),(hX.cell (p:=⟨b,_,none⟩) hb).trans (hc 2 _ rfl),(hX.cell (p:=⟨b,_,none⟩) hb).trans (hc 3 _ rfl)⟩⟩
end Go.Proofs.YtioijfplbgpjpaaGreat
namespace Go.Proofs.YtioijfplbgpjpaaGreat
set_option linter.unusedVariables false
set_option linter.unusedSimpArgs false
set_option maxRecDepth 100000
open Go.RowKit
def sumTo (f:Nat→Int):Nat→Int
 |0=>0
 |n + 1=>sumTo f n + f n
section
variable {r:Request} {x:Plan} {k:Int}
end
end Go.Proofs.YtioijfplbgpjpaaGreat
namespace Go.Proofs.YtioijfplbgpjpaaGreat
set_option linter.unusedVariables false
set_option linter.unusedSimpArgs false
set_option maxRecDepth 100000
open Go.RowKit
section
variable {r:Request} {x:Plan}
end
end Go.Proofs.YtioijfplbgpjpaaGreat
namespace Go.Proofs.YtioijfplbgpjpaaGreat
set_option linter.unusedVariables false
set_option linter.unusedSimpArgs false
set_option maxRecDepth 100000
open Go.RowKit Go.WideShapes Go.ChangeShapes Go.ChangeAt Go.Deep
end Go.Proofs.YtioijfplbgpjpaaGreat
namespace Go.Proofs.YtioijfplbgpjpaaGreat
set_option linter.unusedVariables false
set_option linter.unusedSimpArgs false
set_option maxRecDepth 100000
open Go.RowKit Go.WideShapes Go.ChangeShapes Go.ChangeAt Go.Deep
section
variable {w W:World} {l:List Fact} {B k j:Nat} {zs:List (List Int×Nat)} {z:List Int×Nat} {u:Int}
end
def grid (c:Nat→Nat→Int) (Wn Dn:Nat):List (List Int):=(List.range Dn).map fun y=>(List.range Wn).map fun q=>c q y
section
variable {c c':Nat→Nat→Int} {Wn Dn:Nat} {zs:List (List Int×Nat)} {z:List Int×Nat}
end
end Go.Proofs.YtioijfplbgpjpaaGreat
namespace Go.Proofs.YtioijfplbgpjpaaGreat
set_option linter.unusedVariables false
set_option linter.unusedSimpArgs false
set_option maxRecDepth 100000
open Go.RowKit
end Go.Proofs.YtioijfplbgpjpaaGreat
namespace Go.Proofs.YtioijfplbgpjpaaGreat
set_option linter.unusedVariables false
set_option linter.unusedSimpArgs false
set_option maxRecDepth 100000
open Go.RowKit Go.WideShapes Go.ChangeShapes Go.ChangeAt Go.Deep
end Go.Proofs.YtioijfplbgpjpaaGreat
namespace Go.Proofs.YtioijfplbgpjpaaGreat
set_option linter.unusedVariables false
set_option linter.unusedSimpArgs false
set_option maxRecDepth 100000
open Go.RowKit
def DigInv (u v:Nat) (out:List UInt8):Prop:=if v=0 then out=Lib.decDigits u else Lib.decDigits u=Lib.decDigits v ++ out
theorem DigInv.start {u:Nat} (h:u ≠ 0):DigInv u u []:=by unfold DigInv;rw [if_neg h];simp
theorem DigInv.step {u v:Nat} {out:List UInt8} (h:DigInv u v out) (hv:v ≠ 0):DigInv u (v / 10) (UInt8.ofNat (48 + v % 10)::out):=by
 unfold DigInv at h ⊢
 rw [if_neg hv] at h
 by_cases h2:v < 10
 ·rw [if_pos (by omega),h,Lib.decDigits,dif_pos h2,Nat.mod_eq_of_lt h2];rfl
 ·rw [if_neg (by omega),h,Lib.decDigits,dif_neg h2];simp
theorem DigInv.done {u:Nat} {out:List UInt8} (h:DigInv u 0 out):out=Lib.decDigits u:=by unfold DigInv at h;rwa [if_pos rfl] at h
theorem DigInv.len {u v:Nat} {out:List UInt8} (h:DigInv u v out) (hu:u≤9223372036854775808):out.length≤21:=by
 have h1:(Lib.decDigits u).length≤21:=by
  rcases Nat.eq_zero_or_pos u with h0 | h0
  ·subst h0;decide +kernel
  ·have h2:=Lib.itoa_length_le (-(u:Int)) (by omega) (by omega)
   rw [Lib.itoa_neg u h0] at h2
   simp at h2
   omega
 unfold DigInv at h
 split at h
 ·rw [h];exact h1
 ·rw [h,List.length_append] at h1;omega
end Go.Proofs.YtioijfplbgpjpaaGreat
namespace Go.Proofs.YtioijfplbgpjpaaGreat
set_option linter.unusedVariables false
set_option linter.unusedSimpArgs false
set_option maxRecDepth 100000
open Go.RowKit Go.WideShapes Go.ChangeShapes Go.ChangeAt Go.Deep
end Go.Proofs.YtioijfplbgpjpaaGreat
namespace Go.Proofs.YtioijfplbgpjpaaGreat
set_option linter.unusedVariables false
set_option linter.unusedSimpArgs false
set_option maxRecDepth 100000
open Go.RowKit
section
variable {r:Request} {x:Plan} {k z:Int}
def drawn (r:Request) (x:Plan) (k z:Int) (W D:Nat):Int:=sumTo (fun py=>sumTo (fun px=>if pixS r x k z px py=46 then 0 else 1) W) D
end
end Go.Proofs.YtioijfplbgpjpaaGreat
namespace Go.Proofs.YtioijfplbgpjpaaGreat
set_option linter.unusedVariables false
set_option linter.unusedSimpArgs false
set_option maxRecDepth 100000
open Go.RowKit
section
variable {r:Request} {x:Plan}
end
end Go.Proofs.YtioijfplbgpjpaaGreat
namespace Go.Proofs.YtioijfplbgpjpaaGreat
set_option linter.unusedVariables false
set_option linter.unusedSimpArgs false
set_option maxRecDepth 100000
open Go.RowKit
section
variable {r:Request} {x:Plan} {order:List Int}
end
end Go.Proofs.YtioijfplbgpjpaaGreat
namespace Go.Proofs.YtioijfplbgpjpaaGreat
set_option linter.unusedVariables false
set_option linter.unusedSimpArgs false
set_option maxRecDepth 100000
open Go.RowKit
def lostR (r:Request) (x:Plan):List Int:=(intsN (unitsC r).length).filter fun u=>!(allU x.cartons).contains u
theorem cwith_iff {cs:List Carton} {u:Int} : 0≤cwith cs u↔u∈allU cs:=by
 have h:=idxF_any (hasU u) cs
 unfold cwith
 have e:(0≤idxF (hasU u) cs)↔cs.any (hasU u)=true:=by rw [← h,decide_eq_true_eq]
 rw [e,List.any_eq_true]
 unfold allU
 rw [List.mem_flatMap]
 constructor
 ·rintro ⟨c,hc,hu⟩
  refine ⟨c,hc,?_⟩
  unfold hasU at hu
  rw [List.any_eq_true] at hu
  obtain ⟨y,hy,he⟩:=hu
  simp at he
  rw [he];exact hy
 ·rintro ⟨c,hc,hu⟩
  exact ⟨c,hc,by unfold hasU;rw [List.any_eq_true];exact ⟨u,hu,by simp⟩⟩
theorem hasU_mem {u:Int} {c:Carton} : hasU u c=true↔u∈c.units:=by
 unfold hasU
 rw [List.any_eq_true]
 exact ⟨fun ⟨y,hy,he⟩=>by simp at he;rw [he];exact hy,fun h=>⟨u,h,by simp⟩⟩
theorem cwith_carton {cs:List Carton} {u:Int} (h:u∈allU cs):∃ (j:Nat) (c:Carton),cwith cs u=j∧cs[j]? = some c∧u∈c.units:=by
 have h0:=cwith_iff.2 h
 unfold cwith idxF at *
 cases hf:cs.findIdx? (hasU u) with
 |none=>rw [hf] at h0;simp at h0
 |some i =>
  obtain ⟨h1,h2,_⟩:=List.findIdx?_eq_some_iff_getElem.1 hf
  exact ⟨i,cs[i],rfl,List.getElem?_eq_getElem h1,hasU_mem.1 h2⟩
section
variable {r:Request} {x:Plan}
theorem flat_nodup (h:feasible r x=true):(allU x.cartons).Nodup:=(unitsFit_perm.1 (feasible_iff.1 h).2.2.2.1).nodup_iff.2 (intsN_nodup _)
theorem flat_mem (h:feasible r x=true) {u:Int} : u∈allU x.cartons↔0≤u∧u < (unitsR r).length:=by
 have:=(unitsFit_perm.1 (feasible_iff.1 h).2.2.2.1).mem_iff (a:=u)
 rw [intsN_mem] at this
 exact this
theorem unitsC_sound (h:feasible r x=true):unitsC r=unitsR r:=by unfold unitsC;rw [if_pos (feasible_iff.1 h).1]
theorem carton_one:∀ (cs:List Carton),(allU cs).Nodup→∀ {c d:Carton} {u:Int},c∈cs→d∈cs→u∈c.units→u∈d.units→c=d
 |[],_,_,_,_,h,_,_,_=>by simp at h
 |a::cs,hn,c,d,u,hc,hd,hcu,hdu=>by
  have hn2:(a.units ++ allU cs).Nodup:=hn
  rw [List.nodup_append] at hn2
  rcases List.mem_cons.1 hc with rfl | hc2
  ·rcases List.mem_cons.1 hd with rfl | hd2
   ·rfl
   ·exact (hn2.2.2 u hcu u (List.mem_flatMap.2 ⟨d,hd2,hdu⟩) rfl).elim
  ·rcases List.mem_cons.1 hd with rfl | hd2
   ·exact (hn2.2.2 u hdu u (List.mem_flatMap.2 ⟨c,hc2,hcu⟩) rfl).elim
   ·exact carton_one cs hn2.2.1 hc2 hd2 hcu hdu
theorem tog_carton {p:Plan} {u:Int} (hn:(allU p.cartons).Nodup) {c:Carton} (hc:c∈p.cartons) (hu:u∈c.units):tog p u=(sortI c.units).filter fun y=>!decide (y=u):=by
 obtain ⟨j,d,h1,h2,h3⟩:=cwith_carton (List.mem_flatMap.2 ⟨c,hc,hu⟩:u∈allU p.cartons)
 have hd:=List.mem_of_getElem? h2
 have e:=carton_one _ hn hd hc h3 hu
 unfold tog
 rw [h1,if_neg (by omega),Int.toNat_natCast]
 rw [List.getD_eq_getElem?_getD,h2]
 show (sortI d.units).filter _=_
 rw [e]
theorem lost_mem {u:Int} (h:0≤u∧u < ((unitsC r).length:Int)):u∈lostR r x↔cwith x.cartons u < 0:=by
 unfold lostR
 rw [List.mem_filter,intsN_mem]
 have:=cwith_iff (cs:=x.cartons) (u:=u)
 constructor
 ·rintro ⟨_,h2⟩
  have h3:u ∉ allU x.cartons:=by simpa using h2
  have : ¬ 0≤cwith x.cartons u:=fun hc=>h3 (this.1 hc)
  omega
 ·intro h2
  refine ⟨h,?_⟩
  have:u ∉ allU x.cartons:=fun hc=>by have:=this.2 hc;omega
  simpa using this
theorem lost_nodup:(lostR r x).Nodup:=(intsN_nodup _).filter _
theorem lost_count {u:Int} (h:0≤u∧u < ((unitsC r).length:Int)):decide ((lostR r x).count u=1)=decide (cwith x.cartons u < 0):=by
 rw [decide_eq_decide,← lost_mem h,lost_nodup.count]
 split
 ·rename_i hm;exact ⟨fun _=>hm,fun _=>rfl⟩
 ·rename_i hm;exact ⟨fun e=>by simp at e,fun e=>absurd e hm⟩
theorem lost_none (h:feasible r x=true):lostR r x=[]:=by
 rw [List.eq_nil_iff_forall_not_mem]
 intro u hu
 have h1:0≤u∧u < ((unitsC r).length:Int):=intsN_mem.1 (List.mem_filter.1 hu).1
 have h2:=(lost_mem h1).1 hu
 rw [unitsC_sound h] at h1
 have:=cwith_iff.2 ((flat_mem h).2 h1)
 omega
theorem lost_len:(lostR r x).length≤(unitsC r).length:=Nat.le_trans (List.length_filter_le _ _) (Nat.le_of_eq (intsN_len _))
theorem found (h:feasible r x=true) {u:Int} (hu:0≤u∧u < ((unitsR r).length:Int)):∃ (j:Nat) (c:Carton),cwith x.cartons u=j∧x.cartons[j]? = some c∧c.units.count u=1∧(tog x u).length + 1=c.units.length:=by
 have hn:=flat_nodup h
 obtain ⟨j,c,h1,h2,h3⟩:=cwith_carton ((flat_mem h).2 hu)
 have hc:=List.mem_of_getElem? h2
 have hcn:c.units.Nodup:=by
  have:∀ cs:List Carton,(allU cs).Nodup→∀ c∈cs,c.units.Nodup:=by
   intro cs
   induction cs with
   |nil=>intro _ c hc;simp at hc
   |cons a cs ih =>
    intro hn c hc
    have hn2:(a.units ++ allU cs).Nodup:=hn
    rw [List.nodup_append] at hn2
    rcases List.mem_cons.1 hc with rfl | hc
    ·exact hn2.1
    ·exact ih hn2.2.1 c hc
  exact this _ hn c hc
 refine ⟨j,c,h1,h2,by rw [hcn.count,if_pos h3],?_⟩
 rw [tog_carton hn hc h3]
 have hs:(sortI c.units).Nodup:=(sortI_perm c.units).nodup_iff.2 hcn
 have hm:u∈sortI c.units:=sortI_mem.2 h3
 have:∀ l:List Int,l.Nodup→u∈l→(l.filter fun y=>!decide (y=u)).length + 1=l.length:=by
  intro l
  induction l with
  |nil=>intro _ h;simp at h
  |cons a l ih =>
   intro hn h
   have hn2:=List.nodup_cons.1 hn
   rw [List.filter_cons]
   by_cases e:a=u
   ·subst e
    have hf:l.filter (fun y=>!decide (y=a))=l:=by
     rw [List.filter_eq_self]
     intro y hy
     have:y ≠ a:=fun e=>hn2.1 (e ▸ hy)
     simpa using this
    simp only [decide_true,Bool.not_true,Bool.false_eq_true,if_false]
    rw [hf];simp
   ·have:=ih hn2.2 ((List.mem_cons.1 h).resolve_left (fun h=>e h.symm))
    have hd:decide (a=u)=false:=decide_eq_false e
    simp only [hd,Bool.not_false,if_true,List.length_cons]
    omega
 rw [this _ hs hm,sortI_length]
end
end Go.Proofs.YtioijfplbgpjpaaGreat
namespace Go.Proofs.YtioijfplbgpjpaaGreat
set_option linter.unusedVariables false
set_option linter.unusedSimpArgs false
set_option maxRecDepth 100000
open Go.RowKit Go.WideShapes Go.ChangeShapes Go.ChangeAt Go.Deep
def lostB (x:Plan) (j:Nat):Bool:=!(allU x.cartons).contains (j:Int)
theorem lost_range (r:Request) (x:Plan):lostR r x=((List.range (unitsC r).length).filter (lostB x)).map Int.ofNat:=by
 unfold lostR intsN
 rw [List.filter_map]
 rfl
theorem unitsC_le (r:Request):(unitsC r).length≤12:=by
 unfold unitsC
 split
 ·rename_i hs;exact (right_of hs).nunits
 ·simp
theorem any_eq_contains (xs:List Int) (u:Int):(xs.any fun y=>u == y)=xs.contains u:=List.contains_eq_any_beq.symm
set_option maxRecDepth 100000 in
set_option maxHeartbeats 2000000 in
theorem sLost_any (v vx:Value) (r:Request) (x:Plan) (w:World) (h:RReq 16777216 w w.heap.size v r) (hx:RPlan 16777216 w w.heap.size vx x) (hL:x.bulk≤16777216):Calls Tryz.prog 61 #[v,vx] w (MInts w (lostR r x)):=by
 have HR:=Lib.hid h
 have HX:=Lib.hid hx
 obtain ⟨A1,c1,A2,c2,A3,c3,rfl,_⟩:=h.opn
 obtain ⟨PA,ca,PB,cb,rfl,_,_,hla,hlb⟩:=hx.opn
 have hS:=(((Sit.here w).alloc (cR r A1 c1 A2 c2 A3 c3) 41).alloc #[.slice PA x.cartons.length ca,.slice PB x.spots.length cb] 46).alloc #[] 3
 simp only [World.size_alloc] at hS
 have SN:=Lib.hid (hS.boxNil cI 1)
 have hul:=unitsC_le r
 have hal:=allU_bulk x
 have HM:=Lib.hid (lost_range r x)
 clear h hx hS
 go_enter Tryz.func61,Tryz.ntmps61
 have k1:=SN.out.box (.tail _ (.head _));have l1:=SN.out.boxlt (.tail _ (.head _));have k0:=SN.out.box (.tail _ (.tail _ (.head _)));have l0:=SN.out.boxlt (.tail _ (.tail _ (.head _)))
 go_wp2_with fail
 refine (unitsC_any _ r _ (HR.out.next SN.out.low)).mono ?_
 intro e1 w1 hm
 obtain ⟨v1,f1,rfl,hS⟩:=SN.out.gotInts hm
 obtain ⟨D1,d1,rfl,_⟩:=(hS.list (.head _)).form
 have SN:=Lib.hid hS.rot2
 clear k0 l0 k1 l1 hS hm
 have k1:=SN.out.box (.tail _ (.tail _ (.head _)));have l1:=SN.out.boxlt (.tail _ (.tail _ (.head _)))
 go_wp2_with fail
 refine (l15Flat_any _ x _ (HX.out.next SN.out.low) hL).mono ?_
 intro e2 w2 hm
 obtain ⟨v2,f2,rfl,hS⟩:=SN.out.gotInts hm
 have SN:=Lib.hid hS.rot2
 clear k1 l1 hS hm
 obtain ⟨n,hn⟩:∃ n,(unitsC r).length=n:=⟨_,rfl⟩
 rw [hn] at SN hul HM ⊢
 go_wp2
 go_loopw [5,8] (fun vv i wr=>∃ (j:Nat) (fp:List Nat),j≤n∧i=.int .i64 j∧Hid (Sit w wr [fOF cI 3 1 w.heap.size vv (((List.range j).filter (lostB x)).map Int.ofNat) fp,fOF cI 3 1 w.heap.size v2 (allU x.cartons) f2,fOF cI 3 1 w.heap.size (.slice D1 n d1) (unitsC r) f1,fBox (w.heap.size + 1) #[.slice PA x.cartons.length ca,.slice PB x.spots.length cb] 46,fBox w.heap.size (cR r A1 c1 A2 c2 A3 c3) 41])) (fun _ i _=>n - (intOf i).toNat)
 case atStart=>exact ⟨0,_,Nat.zero_le _,rfl,SN⟩
 case round =>
  clear SN
  obtain ⟨j,fp,hj,rfl,SN⟩:=hrel
  obtain ⟨O,hO⟩:∃ O,((List.range j).filter (lostB x)).map Int.ofNat=O:=⟨_,rfl⟩
  have hln:O.length≤j:=by rw [← hO];exact range_le _ _
  have HO:=Lib.hid hO
  rw [hO] at SN
  obtain ⟨Ao_,co_,rfl,_⟩:=(SN.out.list (.head _)).form
  by_cases hlt:j < n
  ·obtain ⟨cn,hcn⟩:∃ c,(allU x.cartons).count (j:Int)=c:=⟨_,rfl⟩
   have HCN:=Lib.hid hcn
   obtain ⟨f,hf⟩:∃ f,lostB x j=f:=⟨_,rfl⟩
   have HST:=Lib.hid (rng_step hf)
   have hcf:f=decide (cn=0):=by
    rw [← hf,← hcn];unfold lostB
    rw [Bool.eq_iff_iff]
    simp [List.count_eq_zero]
   clear hO hcn hf
   go_wp2_with fail
   refine (l8Times_any _ _ _ _ (OInts.read (SN.out.list (.tail _ (.head _))) (by omega))).mono ?_
   rintro e3 w3 ⟨rfl,rfl⟩
   rw [HCN.out]
   by_cases hz:cn=0
   ·have e1:((cn:Int) == 0)=true:=beq_iff_eq.2 (by omega)
    rw [decide_eq_true hz] at hcf
    subst hcf
    go_wp2_with (at_builtin;refine papp_Int _ _ rfl rfl ((j:Int)) rfl rfl (alloc_at (by first | rfl | (simp;done) | (simp;omega))) rfl ((SN.out.list (.head _)).next (by repeat' with_reducible first | assumption | exact bR | apply bD | apply bA | apply bC | apply bN | simp <;> omega)) (by first | omega | (simp;omega)) (by have:=SN.out.low.size;first | omega | (simp;done) | (simp;omega) | (simp at this ⊢;omega)) ?_;intro v7 w7 ha;obtain ⟨g7,S7⟩:=(SN.out.next (by repeat' with_reducible first | assumption | exact bR | apply bD | apply bA | apply bC | apply bN | simp <;> omega)).app ha;have S8:=Lib.hid S7;clear S7 ha)
    go_roundw
    case rel=>exact ⟨j + 1,_,hlt,by go_num,by rw [HST.out,HO.out];exact S8⟩
    case measure=>simp [intOf] <;> omega
   ·have e1:((cn:Int) == 0)=false:=beq_eq_false_iff_ne.2 (by omega)
    rw [decide_eq_false hz] at hcf
    subst hcf
    go_wp2
    go_roundw
    case rel=>exact ⟨j + 1,_,hlt,by go_num,by rw [HST.out,HO.out];simpa using SN⟩
    case measure=>simp [intOf] <;> omega
  ·obtain rfl:j=n:=by omega
   go_wp2
   go_ret
   rw [HM.out,hO]
   exact SN.out.ints
set_option maxHeartbeats 400000 in
theorem lost1_gives (u:Int) (xs:List Int) (v:Value) (B:Nat) (W:World) (hc:W.cell? ⟨B,0,none⟩=some v) (hv:RInts 16777216 W W.heap.size v xs) :
  FnGives Tryz.prog 146 #[.pointer (some ⟨B,0,none⟩)] #[.int .i64 u] (.bool (xs.contains u)) W:=by
 show Calls Tryz.prog 146 #[.int .i64 u,.pointer (some ⟨B,0,none⟩)] W _
 obtain ⟨A,c,rfl,_⟩:=id hv
 go_enter Tryz.func146,Tryz.ntmps146
 go_wp2_with (go_at_call 131;refine (containsInt_any _ xs _ _ hv).mono ?_;rintro e w' ⟨rfl,rfl⟩;rw [any_eq_contains])
 go_ret
 exact ⟨ret_bool (by simp),0,rfl⟩
set_option maxRecDepth 100000 in
set_option maxHeartbeats 2000000 in
theorem iLost_any (v vx:Value) (r:Request) (x:Plan) (w:World) (h:RReq 16777216 w w.heap.size v r) (hx:RPlan 16777216 w w.heap.size vx x) (hL:x.bulk≤16777216):Calls Tryz.prog 60 #[v,vx] w (MInts w (lostR r x)):=by
 have HR:=Lib.hid h
 have HX:=Lib.hid hx
 obtain ⟨A1,c1,A2,c2,A3,c3,rfl,_⟩:=h.opn
 obtain ⟨PA,ca,PB,cb,rfl,_,_,hla,hlb⟩:=hx.opn
 have hS:=((Sit.here w).alloc (cR r A1 c1 A2 c2 A3 c3) 41).alloc #[.slice PA x.cartons.length ca,.slice PB x.spots.length cb] 46
 simp only [World.size_alloc] at hS
 have SN:=Lib.hid hS
 have hul:=unitsC_le r
 have hal:=Nat.le_trans (allU_bulk x) hL
 have HM:=Lib.hid (show lostR r x=(intsN (unitsC r).length).filter fun u=>!(allU x.cartons).contains u from rfl)
 clear h hx hS
 go_enter Tryz.func60,Tryz.ntmps60
 have k0:=SN.out.box (.tail _ (.head _));have l0:=SN.out.boxlt (.tail _ (.head _));have k1:=SN.out.box (.head _);have l1:=SN.out.boxlt (.head _)
 go_wp2_with fail
 refine (allUnits_any _ x _ (HX.out.next SN.out.low) hL).mono ?_
 intro e1 w1 hm
 obtain ⟨v1,f1,rfl,hS⟩:=SN.out.gotInts hm
 obtain ⟨D1,d1,rfl,_⟩:=(hS.list (.head _)).form
 have hS2:=hS.alloc #[.slice D1 (allU x.cartons).length d1] 53
 obtain ⟨b1,hb1⟩:∃ b,w1.heap.size=b:=⟨_,rfl⟩
 rw [hb1] at hS2
 have SN:=Lib.hid hS2
 clear k0 l0 k1 l1 hS hS2 hm
 have k0:=SN.out.box (g:=w.heap.size) (cs:=(cR r A1 c1 A2 c2 A3 c3)) (t:=41) mq
 have l0:=SN.out.boxlt (g:=w.heap.size) (cs:=(cR r A1 c1 A2 c2 A3 c3)) (t:=41) mq
 go_wp2_with fail
 refine (iUnits_any _ r _ (HR.out.next SN.out.low)).mono ?_
 intro e2 w2 hm
 obtain ⟨v2,f2,rfl,hS⟩:=SN.out.gotInts hm
 obtain ⟨D2,d2,rfl,_⟩:=(hS.list (.head _)).form
 have SN:=Lib.hid hS.drop
 clear k0 l0 hS hm
 obtain ⟨n,hn⟩:∃ n,(unitsC r).length=n:=⟨_,rfl⟩
 rw [hn] at hul HM ⊢
 clear hn
 go_wp2_with fail
 refine (places_any n _ (by omega)).mono ?_
 intro e3 w3 hm
 obtain ⟨v3,f3,rfl,hS⟩:=SN.out.gotInts hm
 have SN:=Lib.hid hS
 clear hS hm
 have k1:=SN.out.box (.tail _ (.head _))
 have l1:=SN.out.boxlt (.tail _ (.head _))
 have k10:=k1 0
 simp at k10
 have HA:=Lib.hid (SN.out.apart)
 have HC:=Lib.hid (deleteIntsZ_any 146 #[.pointer (some ⟨b1,0,none⟩)] (fun u=>(allU x.cartons).contains u) v3 (intsN n) f3 _ w3 (SN.out.list (.head _)) (by rw [intsN_len];omega) (fun args W=>run_enter Tryz.func146 (by kernel_rfl) (by kernel_rfl) args W)
  (fun W u hW=>lost1_gives u (allU x.cartons) _ b1 W ((cell_heap (hW b1 l1 (fun hm=>by
   have h1:=HA.out
   simp only [List.pairwise_cons,List.mem_cons,forall_eq_or_imp] at h1
   exact h1.1.1 b1 hm (by simp)))).trans k10) (OInts.read (OF.keep (SN.out.list (.tail _ (.tail _ (.head _)))) (fun b hb=>hW b ((SN.out.lt _ (.tail _ (.tail _ (.head _))) b hb).2) (fun hm=>by
   have h1:=HA.out
   simp only [List.pairwise_cons,List.mem_cons,forall_eq_or_imp] at h1
   exact h1.1.2.1 b hm hb))) (by omega))))
 clear k1 k10 l1 hb1 HA
 obtain ⟨D3,d3,rfl,_⟩:=(SN.out.list (.head _)).form
 go_wp2_with fail
 refine HC.out.mono ?_
 rintro e4 w4 ⟨v4,rfl,ho4,ht4⟩
 have SN4:=Lib.hid (SN.out.grow (q:=fOF cI 3 1 w.heap.size _ (intsN n) f3) ht4 (fOF cI 3 1 w.heap.size v4 _ f3) (fun b hb=>.inl hb) (fOF_ok _ _ _ _ _ _ _) ho4)
 clear ho4 ht4 HC
 go_wp2
 go_ret
 rw [HM.out]
 exact SN4.out.ints
set_option maxRecDepth 100000 in
set_option maxHeartbeats 400000 in
theorem times_any (v:Value) (xs:List Int) (u:Int) (w:World) (h:RInts 16777216 w w.heap.size v xs):Calls Tryz.prog 64 #[v,.int .i64 u] w fun e w'=>e=.returned (.int .i64 (xs.count u))∧w=w':=by
 obtain ⟨A,c,rfl,hbd,_⟩:=id h
 have H:=Lib.hid h
 clear h
 go_enter Tryz.func64,Tryz.ntmps64
 go_wp2
 go_loop [5,6] (fun nn i=>∃ k:Nat,k≤xs.length∧i=.int .i64 k∧nn=.int .i64 ((xs.take k).count u)) (fun _ i=>xs.length - (intOf i).toNat)
 case atStart=>exact ⟨0,Nat.zero_le _,rfl,rfl⟩
 case round =>
  obtain ⟨k,hk,rfl,rfl⟩:=hrel
  have hcl:(xs.take k).count u≤xs.length:=Nat.le_trans List.count_le_length (by rw [List.length_take];omega)
  by_cases hlt:k < xs.length
  ·obtain ⟨b,off,x,rfl,hb,hx,hc⟩:=H.out.at1 k hlt
   have hc0:=hc _ rfl
   have HST:=Lib.hid (show (xs.take (k + 1)).count u=(xs.take k).count u + (if x=u then 1 else 0) by
    rw [List.take_add_one,hx,List.count_append]
    simp [List.count_cons])
   obtain ⟨n,hn⟩:∃ n,(xs.take k).count u=n:=⟨_,rfl⟩
   rw [hn] at HST hcl ⊢
   clear hc hx hn
   by_cases hxu:x=u
   ·subst hxu
    go_wp2
    go_round
    case rel=>exact ⟨k + 1,hlt,by go_num,by rw [HST.out,if_pos rfl];rfl⟩
    case measure=>simp [intOf];omega
   ·have hd:(x == u)=false:=beq_eq_false_iff_ne.2 hxu
    go_wp2
    go_round
    case rel=>exact ⟨k + 1,hlt,by go_num,by rw [HST.out,if_neg hxu];rfl⟩
    case measure=>simp [intOf];omega
  ·obtain rfl:k=xs.length:=by omega
   rw [List.take_length]
   go_wp2
   go_ret
   exact ⟨rfl,rfl⟩
set_option maxRecDepth 100000 in
set_option maxHeartbeats 40000000 in
theorem DrawLost_any (v:Value) (xs:List Int) (w W:World) (L:List Fact) (hS:Sit w W L) (hx:RBytes w w.heap.size v xs):Calls Tryz.prog 59 #[v] W fun e w'=>∃ (u:Value) (r:Request) (fp:List Nat) (vc vs:Value) (x:Plan) (fq:List Nat) ,e=.returned (.tuple #[u,.agg #[vc,vs]])∧Sit w w' (fRq u r fp::fRp vc vs x fq::L)∧r.bulk≤80∧PlanSmall x:=by
 have HB:=Lib.hid hx
 have SN:=Lib.hid ((hS.alloc cZ 41).alloc #[.slice none 0 0,.slice none 0 0] 46)
 simp only [World.size_alloc] at SN
 clear hS hx
 go_enter Tryz.func59,Tryz.ntmps59
 go_upto_region 1 with fail
 generalize hW1:(W.alloc (.cells cZ 41)).alloc (.cells #[.slice none 0 0,.slice none 0 0] 46)=W1 at SN ⊢
 clear hW1
 go_wp2_with fail
 refine (l13Draw_any v xs _ _ _ SN.out HB.out).mono ?_
 rintro e w2 ⟨u,r,fp,vc,vs,x,fq,rfl,SN1,hbk,hsx⟩
 obtain ⟨vp,vt,vi,rfl,⟨A1,c1,rfl,_⟩,⟨A2,c2,rfl,_⟩,⟨A3,c3,rfl,_⟩⟩:=SN1.on _ (.head _)
 obtain ⟨zs2,hz2,⟨A7,c7,rfl,_⟩,_,⟨A8,c8,rfl,_⟩⟩:=RpOn.open (SN1.on _ (.tail _ (.head _)))
 have HZ2:=Lib.hid hz2
 have hbt:=SN1.boxlt (.tail _ (.tail _ (.head _)))
 clear hz2
 have k2:=SN1.box (g:=W.heap.size) (cs:=cZ) (t:=41) mq
 have f2:=SN1.free (g:=W.heap.size) (cs:=cZ) (t:=41) mq
 have k3:=SN1.box (g:=W.heap.size + 1) (cs:=#[.slice none 0 0,.slice none 0 0]) (t:=46) mq
 have f3:=SN1.free (g:=W.heap.size + 1) (cs:=#[.slice none 0 0,.slice none 0 0]) (t:=46) mq
 have SF:=Lib.hid (((((SN1.rot4).rot4).rot2).overL [.int .i64 r.way,.int .i64 r.pallet.w,.int .i64 r.pallet.d,.int .i64 r.pallet.h,.int .i64 r.pallet.gram,.int .i64 r.classes,.slice A1 r.pairs.length c1,.slice A2 r.types.length c2,.int .i64 r.master,.slice A3 r.items.length c3] 0).rot2.overL [.slice A7 zs2.length c7,.slice A8 x.spots.length c8] 0)
 go_wp2_with fail
 refine bodyPost_ret (v:=.tuple #[.agg (cR r A1 c1 A2 c2 A3 c3),.agg #[.slice A7 zs2.length c7,.slice A8 x.spots.length c8]]) (by simp [results,Tryz.results59,go_sem,k2,f2,k3,f3]) rfl ?_
 exact ⟨_,r,fp,_,_,x,_,rfl,SF.out.drop.drop,hbk,hsx⟩
end Go.Proofs.YtioijfplbgpjpaaGreat
