/-
  Words and walks that these laws need beyond the others': see each theorem.
-/
import Derived.Test.YtioijfplbgpjpaaGreatKu00
import Derived.Test.YtioijfplbgpjpaaGreatKu01
import Derived.Test.YtioijfplbgpjpaaGreatKu02
import Derived.Test.YtioijfplbgpjpaaGreatKu43
import Derived.Test.YtioijfplbgpjpaaGreatKu03
import Derived.Test.YtioijfplbgpjpaaGreatKu04
import Derived.Test.YtioijfplbgpjpaaGreatKu05
import Derived.Test.YtioijfplbgpjpaaGreatKu06
import Derived.Test.YtioijfplbgpjpaaGreatKu09
import Derived.Test.YtioijfplbgpjpaaGreatKu22
import Derived.Test.YtioijfplbgpjpaaGreatKu24
import Derived.Test.YtioijfplbgpjpaaGreatKu25
import Derived.Test.YtioijfplbgpjpaaGreatKu10
import Derived.Test.YtioijfplbgpjpaaGreatKu11
import Derived.Test.YtioijfplbgpjpaaGreatKu26
import Derived.Test.YtioijfplbgpjpaaGreatKu29
import Derived.Test.YtioijfplbgpjpaaGreatKu27
import Derived.Test.YtioijfplbgpjpaaGreatKu28
import Derived.Test.YtioijfplbgpjpaaGreatKu30
import Derived.Test.YtioijfplbgpjpaaGreatKu31
import Derived.Test.YtioijfplbgpjpaaGreatKu33
import Derived.Test.YtioijfplbgpjpaaGreatKu35
import Derived.Test.YtioijfplbgpjpaaGreatKu23
import Derived.Test.YtioijfplbgpjpaaGreatKu07
import Derived.Test.YtioijfplbgpjpaaGreatKu08
import Derived.Test.YtioijfplbgpjpaaGreatKu12
import Derived.Test.YtioijfplbgpjpaaGreatKu13
import Derived.Test.YtioijfplbgpjpaaGreatKu14
import Derived.Test.YtioijfplbgpjpaaGreatKu15
import Derived.Test.YtioijfplbgpjpaaGreatKu16
import Derived.Test.YtioijfplbgpjpaaGreatKu17
import Derived.Test.YtioijfplbgpjpaaGreatKu18
import Derived.Test.YtioijfplbgpjpaaGreatKu19
import Derived.Test.YtioijfplbgpjpaaGreatKu20
import Derived.Test.YtioijfplbgpjpaaGreatKu36
import Derived.Test.YtioijfplbgpjpaaGreatKu37
import Derived.Test.YtioijfplbgpjpaaGreatKu21
import Derived.Test.YtioijfplbgpjpaaGreatKu32
import Derived.WalkKit
import Derived.WalkSpells
import Derived.WalkLawsBesides
import Derived.BigQuiet
import Derived.Deep.QuietTactic
import Derived.IntWalk
import Derived.Lib.Hide
import Derived.Laws.OwnMore
import Derived.Deep.Draws
import Derived.Deep.RegionHeld3
import Derived.Maps.AppendAt
import Derived.Deep.AppendLies
import Derived.RegionTactic
import Derived.OwnWalk
import Derived.ProofKit
import Derived.OpenShut
import Derived.ShutString
import Derived.WideKeyArgs
import Derived.Carry
import Derived.Deep.Slices
import Derived.Deep.Fields
import Derived.Deep.Strs
import Derived.ChangeSame
import Derived.Deep.Light
import Derived.Laws.StructEq
import Derived.Sort.OwnSortedInts
import Derived.StillTail
import Derived.Deep.RegionHeld
import Derived.Deep.RegionLaw
import Derived.Deep.DeepCutAuto
import Derived.Deep.RegionWith
import Derived.StillTailTactics
import Derived.Laws.CopyOwn
import Derived.Deep.CutBlock
import Derived.Laws.IdiomStrings
namespace Go.Proofs.YtioijfplbgpjpaaGreat
set_option linter.unusedVariables false
set_option linter.unusedSimpArgs false
set_option maxRecDepth 100000
open Go.RowKit
end Go.Proofs.YtioijfplbgpjpaaGreat
namespace Go.Proofs.YtioijfplbgpjpaaGreat
set_option linter.unusedVariables false
set_option linter.unusedSimpArgs false
set_option maxRecDepth 100000
open Go.RowKit Go.WideShapes Go.ChangeShapes Go.ChangeAt Go.Deep
@[simp] abbrev cB5 (X:World) (b o m:Nat) (s:Box):Prop:=X.cell? ⟨b,o + m * 4,none⟩=some (.int .i64 s.w)∧X.cell? ⟨b,o + m * 4 + 1,none⟩=some (.int .i64 s.d)∧X.cell? ⟨b,o + m * 4 + 2,none⟩=some (.int .i64 s.h)∧X.cell? ⟨b,o + m * 4 + 3,none⟩=some (.int .i64 s.gram)
abbrev RBoxes (w:World) (B:Nat) (v:Value) (xs:List Box):Prop:=RL 16777216 4 (flat Box.cells) w B v xs
theorem RBoxes.one {w:World} {A:Option Addr} {n c:Nat} {xs:List Box} (h:RBoxes w w.heap.size (.slice A n c) xs) (i:Nat) (hi:i < xs.length) :
  ∃ b off s,A=some ⟨b,off,none⟩∧b < w.heap.size∧xs[i]? = some s∧Hid (∀ X:World,Below w.heap.size w X→cB5 X b off i s):=by
 obtain ⟨b,off,s,cs,rfl,hb,hx,_,rfl,hc⟩:=h.at_ i hi
 exact ⟨b,off,s,rfl,hb,hx,Lib.hid fun X hX=>⟨(hX.cell (p:=⟨b,_,none⟩) hb).trans (hc 0 _ rfl),(hX.cell (p:=⟨b,_,none⟩) hb).trans (hc 1 _ rfl),(hX.cell (p:=⟨b,_,none⟩) hb).trans (hc 2 _ rfl),(hX.cell (p:=⟨b,_,none⟩) hb).trans (hc 3 _ rfl)⟩⟩
end Go.Proofs.YtioijfplbgpjpaaGreat
namespace Go.Proofs.YtioijfplbgpjpaaGreat
set_option linter.unusedVariables false
set_option linter.unusedSimpArgs false
set_option maxRecDepth 100000
open Go.RowKit
def sumTo (f:Nat→Int):Nat→Int
 |0=>0
 |n + 1=>sumTo f n + f n
theorem sumTo_add (f g:Nat→Int):∀ n,sumTo (fun z=>f z + g z) n=sumTo f n + sumTo g n
 |0=>rfl
 |n + 1=>by unfold sumTo;rw [sumTo_add f g n];omega
theorem sumTo_zero:∀ n,sumTo (fun _=>0) n=0
 |0=>rfl
 |n + 1=>by unfold sumTo;rw [sumTo_zero n];rfl
theorem sumTo_congr {f g:Nat→Int} : ∀ n,(∀ z,z < n→f z=g z)→sumTo f n=sumTo g n
 |0,_=>rfl
 |n + 1,h=>by unfold sumTo;rw [sumTo_congr n (fun z hz=>h z (by omega)),h n (by omega)]
theorem sumTo_band (a lo hi:Int):∀ n:Nat,0≤lo→lo≤hi→sumTo (fun z=>if lo≤(z:Int)∧(z:Int) < hi then a else 0) n=a * (min (n:Int) hi - min (n:Int) lo)
 |0,h0,h1=>by
  have e:min ((0:Nat):Int) hi - min ((0:Nat):Int) lo=0:=by omega
  rw [e,Int.mul_zero];rfl
 |n + 1,h0,h1=>by
  unfold sumTo
  rw [sumTo_band a lo hi n h0 h1]
  by_cases hc:lo≤(n:Int)∧(n:Int) < hi
  ·rw [if_pos hc]
   have e:min ((n + 1:Nat):Int) hi - min ((n + 1:Nat):Int) lo=(min (n:Int) hi - min (n:Int) lo) + 1:=by omega
   rw [e,Int.mul_add,Int.mul_one]
  ·rw [if_neg hc]
   have e:min ((n + 1:Nat):Int) hi - min ((n + 1:Nat):Int) lo=min (n:Int) hi - min (n:Int) lo:=by omega
   rw [e,Int.add_zero]
section
variable {r:Request} {x:Plan} {k:Int}
theorem atH_iff (h:feasible r x=true) {u:Int} (hu:u∈onPal x k) (z:Int):atH r x z u=true↔(spotAt x u).z≤z∧z < endZ r x u:=by
 obtain ⟨_,_,a3,_,_,a6,_⟩:=onPal_facts h hu
 unfold atH endZ
 rw [wrap_sum a6 a3]
 have e1:wrap64 ((spotAt x u).z + (boxAt r x u).h - 1)=(spotAt x u).z + (boxAt r x u).h - 1:=by unfold wrap64;omega
 rw [e1]
 simp only [inB,Bool.and_eq_true,decide_eq_true_eq]
 omega
theorem sum_filter (f:Int→Int) (p:Int→Bool):∀ l:List Int,((l.filter p).map f).sum=(l.map fun u=>if p u=true then f u else 0).sum
 |[]=>rfl
 |a::l=>by
  rw [List.filter_cons,List.map_cons,List.sum_cons,← sum_filter f p l]
  cases p a
  ·simp
  ·simp
theorem sum_swap (g:Nat→Int→Int):∀ (l:List Int) (n:Nat),sumTo (fun z=>(l.map (g z)).sum) n=(l.map fun u=>sumTo (fun z=>g z u) n).sum
 |[],n=>by simp [sumTo_zero]
 |a::l,n=>by
  simp only [List.map_cons,List.sum_cons]
  rw [sumTo_add,sum_swap g l n]
def volAt (r:Request) (x:Plan) (u:Int):Int:=areaOf r x u * (boxAt r x u).h
theorem covered_all (h:feasible r x=true) {n:Nat} (hn:(n:Int)=r.pallet.h):sumTo (fun z=>coveredR r x k z) n=((onPal x k).map (volAt r x)).sum:=by
 rw [sumTo_congr n (g:=fun z=>((onPal x k).map fun u=>if atH r x z u=true then areaOf r x u else 0).sum) (fun z _=>by rw [(covered_sum h).1];exact sum_filter _ _ _),sum_swap]
 congr 1
 refine List.map_congr_left fun u hu=>?_
 obtain ⟨_,_,a3,_,_,a6,_,_,a9⟩:=onPal_facts h hu
 rw [sumTo_congr n (g:=fun z=>if (spotAt x u).z≤(z:Int)∧(z:Int) < endZ r x u then areaOf r x u else 0) (fun z _=>by
  have:=atH_iff h hu z
  by_cases hc:atH r x z u=true
  ·rw [if_pos hc,if_pos (this.1 hc)]
  ·rw [if_neg hc,if_neg (fun e=>hc (this.2 e))])]
 rw [sumTo_band _ _ _ n a6.1 (by unfold endZ;omega)]
 unfold volAt
 congr 1
 unfold endZ
 omega
theorem covered_bad (h:feasible r x=false):∀ n,sumTo (fun z=>coveredR r x k z) n=0:=by
 intro n
 rw [sumTo_congr n (g:=fun _=>0) (fun z _=>by unfold coveredR;rw [h];rfl)]
 exact sumTo_zero n
theorem dropped_pal (h:feasible r x=true) (k:Int):onPal (droppedR r x) k=onPal x k:=by
 have hl:=feas_len h
 have hd:=dropped_feas h
 have hc:(droppedR r x).cartons=x.cartons:=by unfold droppedR;rw [if_pos h]
 have hs:(droppedR r x).spots.length=x.spots.length:=by unfold droppedR;rw [if_pos h];exact drop_len r x _
 unfold onPal
 rw [hc,hs]
 split
 ·congr 1
  refine List.filter_congr fun j hj=>?_
  have:=(dropped_under h j).1
  rw [spotAt_nat,spotAt_nat] at this
  unfold onAt
  rw [this]
 ·rfl
theorem dropped_vol (h:feasible r x=true) (u:Int):volAt r (droppedR r x) u=volAt r x u:=by
 have hc:(droppedR r x).cartons=x.cartons:=by unfold droppedR;rw [if_pos h]
 unfold volAt areaOf boxAt cartAt
 rw [hc]
theorem dropped_all (h:feasible r x=true) {n:Nat} (hn:(n:Int)=r.pallet.h):sumTo (fun z=>coveredR r (droppedR r x) k z) n=((onPal x k).map (volAt r x)).sum:=by
 rw [covered_all (dropped_feas h) hn,dropped_pal h]
 congr 1
 exact List.map_congr_left fun u _=>dropped_vol h u
theorem dropped_bad (h:feasible r x=false):droppedR r x=x:=by unfold droppedR;rw [h];rfl
theorem vol_box (h:feasible r x=true) {u:Int} (hu:u∈onPal x k):vol (boxAt r x u).w (boxAt r x u).h (boxAt r x u).d=volAt r x u:=by
 obtain ⟨a1,a2,a3,_⟩:=onPal_facts h hu
 have m1:=Int.mul_le_mul a1.2 a3.2 (by omega) (by omega)
 have m0:=Int.mul_nonneg (show (0:Int)≤(boxAt r x u).w by omega) (show (0:Int)≤(boxAt r x u).h by omega)
 have m2:=Int.mul_le_mul m1 a2.2 (by omega) (by omega)
 have m3:=Int.mul_nonneg m0 (show (0:Int)≤(boxAt r x u).d by omega)
 unfold vol
 rw [if_pos (by simp only [inB,Bool.and_eq_true,decide_eq_true_eq];omega)]
 unfold volAt areaOf
 have e1:wrap64 ((boxAt r x u).w * (boxAt r x u).h)=(boxAt r x u).w * (boxAt r x u).h:=by unfold wrap64;omega
 rw [e1]
 have e2:wrap64 ((boxAt r x u).w * (boxAt r x u).h * (boxAt r x u).d)=(boxAt r x u).w * (boxAt r x u).h * (boxAt r x u).d:=by unfold wrap64;omega
 rw [e2,Int.mul_assoc,Int.mul_comm (boxAt r x u).h,← Int.mul_assoc]
end
end Go.Proofs.YtioijfplbgpjpaaGreat
namespace Go.Proofs.YtioijfplbgpjpaaGreat
set_option linter.unusedVariables false
set_option linter.unusedSimpArgs false
set_option maxRecDepth 100000
open Go.RowKit
theorem pal_range {r:Request} {x:Plan} (h:feasible r x=true):(1≤r.pallet.w∧r.pallet.w≤2000)∧(1≤r.pallet.d∧r.pallet.d≤2000)∧(1≤r.pallet.h∧r.pallet.h≤2000):=by
 have:=(right_of (feasible_iff.1 h).1).pal
 simp only [palletOk,sideOk,inB,Bool.and_eq_true,decide_eq_true_eq] at this
 omega
section
variable {r:Request} {x:Plan}
end
end Go.Proofs.YtioijfplbgpjpaaGreat
namespace Go.Proofs.YtioijfplbgpjpaaGreat
set_option linter.unusedVariables false
set_option linter.unusedSimpArgs false
set_option maxRecDepth 100000
open Go.RowKit Go.WideShapes Go.ChangeShapes Go.ChangeAt Go.Deep
end Go.Proofs.YtioijfplbgpjpaaGreat
namespace Go.Proofs.YtioijfplbgpjpaaGreat
set_option linter.unusedVariables false
set_option linter.unusedSimpArgs false
set_option maxRecDepth 100000
open Go.RowKit Go.WideShapes Go.ChangeShapes Go.ChangeAt Go.Deep
section
variable {w W:World} {l:List Fact} {B k j:Nat} {zs:List (List Int×Nat)} {z:List Int×Nat} {u:Int}
end
def grid (c:Nat→Nat→Int) (Wn Dn:Nat):List (List Int):=(List.range Dn).map fun y=>(List.range Wn).map fun q=>c q y
section
variable {c c':Nat→Nat→Int} {Wn Dn:Nat} {zs:List (List Int×Nat)} {z:List Int×Nat}
end
end Go.Proofs.YtioijfplbgpjpaaGreat
