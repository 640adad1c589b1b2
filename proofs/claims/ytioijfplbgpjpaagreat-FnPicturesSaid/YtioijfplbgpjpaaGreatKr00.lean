/-
  Words and walks that these laws need beyond the others': see each theorem.
-/
import Derived.Test.YtioijfplbgpjpaaGreatKu00
import Derived.Test.YtioijfplbgpjpaaGreatKu01
import Derived.Test.YtioijfplbgpjpaaGreatKu02
import Derived.Test.YtioijfplbgpjpaaGreatKu43
import Derived.Test.YtioijfplbgpjpaaGreatKu03
import Derived.Test.YtioijfplbgpjpaaGreatKu04
import Derived.Test.YtioijfplbgpjpaaGreatKu05
import Derived.Test.YtioijfplbgpjpaaGreatKu06
import Derived.Test.YtioijfplbgpjpaaGreatKu09
import Derived.Test.YtioijfplbgpjpaaGreatKu22
import Derived.Test.YtioijfplbgpjpaaGreatKu24
import Derived.Test.YtioijfplbgpjpaaGreatKu25
import Derived.Test.YtioijfplbgpjpaaGreatKu10
import Derived.Test.YtioijfplbgpjpaaGreatKu11
import Derived.Test.YtioijfplbgpjpaaGreatKu26
import Derived.Test.YtioijfplbgpjpaaGreatKu29
import Derived.Test.YtioijfplbgpjpaaGreatKu27
import Derived.Test.YtioijfplbgpjpaaGreatKu28
import Derived.Test.YtioijfplbgpjpaaGreatKu23
import Derived.Test.YtioijfplbgpjpaaGreatKu07
import Derived.Test.YtioijfplbgpjpaaGreatKu08
import Derived.Test.YtioijfplbgpjpaaGreatKu12
import Derived.Test.YtioijfplbgpjpaaGreatKu13
import Derived.Test.YtioijfplbgpjpaaGreatKu14
import Derived.Test.YtioijfplbgpjpaaGreatKu15
import Derived.Test.YtioijfplbgpjpaaGreatKu16
import Derived.Test.YtioijfplbgpjpaaGreatKu17
import Derived.Test.YtioijfplbgpjpaaGreatKu18
import Derived.Test.YtioijfplbgpjpaaGreatKu19
import Derived.Test.YtioijfplbgpjpaaGreatKu20
import Derived.Test.YtioijfplbgpjpaaGreatKu21
import Derived.Test.YtioijfplbgpjpaaGreatKu32
import Derived.WalkKit
import Derived.WalkSpells
import Derived.WalkLawsBesides
import Derived.BigQuiet
import Derived.Deep.QuietTactic
import Derived.IntWalk
import Derived.Lib.Hide
import Derived.Laws.OwnMore
import Derived.Deep.Draws
import Derived.Deep.RegionHeld3
import Derived.Maps.AppendAt
import Derived.Deep.AppendLies
import Derived.RegionTactic
import Derived.OwnWalk
import Derived.ProofKit
import Derived.OpenShut
import Derived.ShutString
import Derived.WideKeyArgs
import Derived.Carry
import Derived.Deep.Slices
import Derived.Deep.Fields
import Derived.Deep.Strs
import Derived.ChangeSame
import Derived.Deep.Light
import Derived.Laws.StructEq
import Derived.Sort.OwnSortedInts
import Derived.StillTail
import Derived.Deep.RegionHeld
import Derived.Deep.RegionLaw
import Derived.Deep.DeepCutAuto
import Derived.Deep.RegionWith
import Derived.StillTailTactics
import Derived.Laws.CopyOwn
import Derived.Deep.CutBlock
import Derived.Laws.IdiomStrings
import Derived.Lib.ItoaLen
import Derived.Lib.SmallJoins
import Derived.Laws.BytesString
namespace Go.Proofs.YtioijfplbgpjpaaGreat
set_option linter.unusedVariables false
set_option linter.unusedSimpArgs false
set_option maxRecDepth 100000
open Go.RowKit
section
variable {α:Type} {bd k:Nat} {R:World→Nat→List Value→α→Prop} {w w':World} {B B':Nat} {v:Value} {xs:List α}
end
def cS (s:ByteArray):List Value:=[.string s]
end Go.Proofs.YtioijfplbgpjpaaGreat
namespace Go.Proofs.YtioijfplbgpjpaaGreat
set_option linter.unusedVariables false
set_option linter.unusedSimpArgs false
set_option maxRecDepth 100000
open Go.RowKit
section
variable {α:Type} {e K:Nat} {E:World→List Value→α→List Nat→Prop} {w w':World} {base:Nat} {v:Value} {xs:List α} {fp:List Nat} {k:Nat} {cs:List Value}
end
end Go.Proofs.YtioijfplbgpjpaaGreat
namespace Go.Proofs.YtioijfplbgpjpaaGreat
set_option linter.unusedVariables false
set_option linter.unusedSimpArgs false
set_option maxRecDepth 100000
open Go.RowKit
end Go.Proofs.YtioijfplbgpjpaaGreat
namespace Go.Proofs.YtioijfplbgpjpaaGreat
set_option linter.unusedVariables false
set_option linter.unusedSimpArgs false
set_option maxRecDepth 100000
open Go.RowKit
theorem info_str:(Tryz.prog.info? 9).map (fun i=>(i.zero,i.size,i.bytes))=some (some (.string ByteArray.empty),1,16):=by kernel_rfl
end Go.Proofs.YtioijfplbgpjpaaGreat
namespace Go.Proofs.YtioijfplbgpjpaaGreat
set_option linter.unusedVariables false
set_option linter.unusedSimpArgs false
set_option maxRecDepth 100000
open Go.RowKit
theorem tot_all {α:Type} (f:α→Nat) {xs:List α} {k:Nat} (h:xs.length≤k):tot f (xs.take k)=tot f xs:=by rw [List.take_of_length_le h]
theorem tot_mono {α:Type} {f g:α→Nat} (h:∀ x,f x≤g x):∀ xs:List α,tot f xs≤tot g xs
 |[]=>Nat.le_refl _
 |x::xs=>by have:=tot_mono h xs;have:=h x;simp only [tot,List.map_cons,List.sum_cons] at *;omega
def cntB (n:Int) (s:ByteArray):Nat:=(s.data.toList.filter fun c=>(c.toNat:Int) == n).length
def cntL (n:Int) (l:List UInt8):Nat:=(l.filter fun c=>(c.toNat:Int) == n).length
theorem cntL_take (n:Int) (s:ByteArray) (k:Nat) (hk:k < s.size):cntL n (s.data.toList.take (k + 1))=cntL n (s.data.toList.take k) + if (((s[k].toNat:Nat):Int) == n)=true then 1 else 0:=by
 have:s.data.toList[k]? = some s[k]:=by rw [List.getElem?_eq_getElem (by simpa using hk)];rfl
 unfold cntL
 rw [List.take_add_one,this,List.filter_append]
 by_cases h:(((s[k].toNat:Nat):Int) == n)=true <;> simp [List.filter_cons,h]
theorem cntL_le (n:Int) (l:List UInt8):cntL n l≤l.length:=List.length_filter_le _ _
theorem cntB_le (n:Int) (s:ByteArray):cntB n s≤s.size:=by have:=cntL_le n s.data.toList;rw [Array.length_toList] at this;exact this
theorem cntL_all (n:Int) (s:ByteArray) {k:Nat} (h:s.size≤k):cntL n (s.data.toList.take k)=cntB n s:=by unfold cntB cntL;rw [List.take_of_length_le (by simpa using h)]
set_option maxHeartbeats 400000 in
theorem sCount_any (v:Value) (xs:List ByteArray) (n:Int) (w:World) (h:RL 16777216 1 (flat cS) w w.heap.size v xs) (hs:tot ByteArray.size xs≤1048576) :
  Calls Tryz.prog 56 #[v,.int .u8 n] w fun e w'=>e=.returned (.int .i64 (tot (cntB n) xs:Nat))∧w=w':=by
 have h':=h
 obtain ⟨A,c,rfl,hbd,_⟩:=h
 have H:=Lib.hid h'
 have hT:tot (cntB n) xs≤1048576:=Nat.le_trans (tot_mono (cntB_le n) xs) hs
 have HT:=Lib.hid hT
 have HS:=Lib.hid hs
 clear h' hs hT
 go_enter Tryz.func56,Tryz.ntmps56
 go_wp2
 go_loop [5,6,7] (fun l i _=>∃ k:Nat,k≤xs.length∧i=.int .i64 k∧l=.int .i64 (tot (cntB n) (xs.take k):Nat)) (fun _ i _=>xs.length - (intOf i).toNat)
 case atStart=>exact ⟨0,Nat.zero_le _,rfl,rfl⟩
 case round =>
  obtain ⟨k,hk,rfl,rfl⟩:=hrel
  by_cases hlt:k < xs.length
  ·obtain ⟨b,off,s,rfl,hb,hx,hc⟩:=H.out.at1 k hlt
   have hc0:=hc _ rfl
   have hsz:s.size≤1048576:=Nat.le_trans (Nat.le_trans (Nat.le_add_left _ _) (tot_ge ByteArray.size hx)) HS.out
   have hb1:tot (cntB n) (xs.take k) + cntB n s≤1048576:=Nat.le_trans (tot_ge (cntB n) hx) HT.out
   clear hc
   obtain ⟨t,ht⟩:∃ t,t=tot (cntB n) (xs.take k):=⟨_,rfl⟩
   rw [← ht] at hb1 ⊢
   have HTt:=Lib.hid ht
   clear ht
   go_wp2
   go_loop [5,7] (fun l i=>∃ j:Nat,∃ m:Nat,j≤s.size∧m≤j∧i=.int .i64 j∧l=.int .i64 ((t:Int) + (m:Int))∧m=cntL n (s.data.toList.take j)) (fun _ i=>s.size - (intOf i).toNat)
   case atStart=>exact ⟨0,0,Nat.zero_le _,Nat.le_refl _,rfl,by simp,rfl⟩
   case round =>
    obtain ⟨j,m,hj,hmj,rfl,rfl,hm⟩:=hrel
    have HM:=Lib.hid hm
    have ht2:t≤1048576:=by omega
    clear hm
    by_cases hjl:j < s.size
    ·have hstep:=Lib.hid (cntL_take n s j hjl)
     by_cases hq:(((s[j].toNat:Nat):Int) == n)=true
     ·go_wp2_with (go_at_call 141;refine (l1Bit_any _ _).mono ?_;rintro e w' ⟨rfl,rfl⟩)
      go_round
      case rel=>exact ⟨j + 1,m + 1,by omega,by omega,by go_num,by go_num,by rw [HM.out,hstep.out,if_pos hq]⟩
      case measure=>simp [intOf];omega
     ·have hq':(((s[j].toNat:Nat):Int) == n)=false:=by simpa using hq
      clear hq
      go_wp2_with (go_at_call 141;refine (l1Bit_any _ _).mono ?_;rintro e w' ⟨rfl,rfl⟩)
      go_round
      case rel=>exact ⟨j + 1,m,by omega,by omega,by go_num,by go_num,by rw [HM.out,hstep.out,hq'];simp⟩
      case measure=>simp [intOf];omega
    ·go_wp2
     go_round
     case rel=>exact ⟨k + 1,by omega,by go_num,by rw [tot_take _ hx,← HTt.out,HM.out,cntL_all n s (by omega)];go_num⟩
     case measure=>simp [intOf];omega
  ·go_wp2
   go_ret
   exact ⟨ret_int (by rw [tot_all _ (by omega)]),rfl⟩
set_option maxHeartbeats 400000 in
theorem iCount_any (v:Value) (xs:List ByteArray) (n:Int) (w:World) (h:RL 16777216 1 (flat cS) w w.heap.size v xs) (hs:tot ByteArray.size xs≤1048576) :
  Calls Tryz.prog 55 #[v,.int .u8 n] w fun e w'=>e=.returned (.int .i64 (tot (cntB n) xs:Nat))∧w=w':=by
 have h':=h
 obtain ⟨A,c,rfl,hbd,_⟩:=h
 have H:=Lib.hid h'
 have hT:tot (cntB n) xs≤1048576:=Nat.le_trans (tot_mono (cntB_le n) xs) hs
 have HT:=Lib.hid hT
 have HS:=Lib.hid hs
 clear h' hs hT
 go_enter Tryz.func55,Tryz.ntmps55
 go_wp2
 go_loop [5,7,8,11,17] (fun l _ _ i _=>∃ k:Nat,k≤xs.length∧i=.int .i64 k∧l=.int .i64 (tot (cntB n) (xs.take k):Nat)) (fun _ _ _ i _=>xs.length - (intOf i).toNat)
 case atStart=>exact ⟨0,Nat.zero_le _,rfl,rfl⟩
 case round =>
  obtain ⟨k,hk,rfl,rfl⟩:=hrel
  by_cases hlt:k < xs.length
  ·obtain ⟨b,off,s,rfl,hb,hx,hc⟩:=H.out.at1 k hlt
   have hc0:=hc _ rfl
   have hsz:s.size≤1048576:=Nat.le_trans (Nat.le_trans (Nat.le_add_left _ _) (tot_ge ByteArray.size hx)) HS.out
   have hb1:tot (cntB n) (xs.take k) + cntB n s≤1048576:=Nat.le_trans (tot_ge (cntB n) hx) HT.out
   clear hc
   obtain ⟨t,ht⟩:∃ t,t=tot (cntB n) (xs.take k):=⟨_,rfl⟩
   rw [← ht] at hb1 ⊢
   have HTt:=Lib.hid ht
   clear ht
   go_wp2
   go_loop [5,8,17] (fun l _ i=>∃ j:Nat,∃ m:Nat,j≤s.size∧m≤j∧i=.int .i64 j∧l=.int .i64 ((t:Int) + (m:Int))∧m=cntL n (s.data.toList.take j)) (fun _ _ i=>s.size - (intOf i).toNat)
   case atStart=>exact ⟨0,0,Nat.zero_le _,Nat.le_refl _,rfl,by simp,rfl⟩
   case round =>
    obtain ⟨j,m,hj,hmj,rfl,rfl,hm⟩:=hrel
    have HM:=Lib.hid hm
    have ht2:t≤1048576:=by omega
    clear hm
    by_cases hjl:j < s.size
    ·have hstep:=Lib.hid (cntL_take n s j hjl)
     by_cases hq:(((s[j].toNat:Nat):Int) == n)=true
     ·go_wp2
      go_round
      case rel=>exact ⟨j + 1,m + 1,by omega,by omega,by go_num,by go_num,by rw [HM.out,hstep.out,if_pos hq]⟩
      case measure=>simp [intOf];omega
     ·have hq':(((s[j].toNat:Nat):Int) == n)=false:=by simpa using hq
      clear hq
      go_wp2
      go_round
      case rel=>exact ⟨j + 1,m,by omega,by omega,by go_num,by go_num,by rw [HM.out,hstep.out,hq'];simp⟩
      case measure=>simp [intOf];omega
    ·go_wp2
     go_round
     case rel=>exact ⟨k + 1,by omega,by go_num,by rw [tot_take _ hx,← HTt.out,HM.out,cntL_all n s (by omega)];go_num⟩
     case measure=>simp [intOf];omega
  ·go_wp2
   go_ret
   exact ⟨ret_int (by rw [tot_all _ (by omega)]),rfl⟩
end Go.Proofs.YtioijfplbgpjpaaGreat
namespace Go.Proofs.YtioijfplbgpjpaaGreat
set_option linter.unusedVariables false
set_option linter.unusedSimpArgs false
set_option maxRecDepth 100000
open Go.RowKit
end Go.Proofs.YtioijfplbgpjpaaGreat
namespace Go.Proofs.YtioijfplbgpjpaaGreat
set_option linter.unusedVariables false
set_option linter.unusedSimpArgs false
set_option maxRecDepth 100000
open Go.RowKit
section
variable {w W:World} {B:Nat}
end
end Go.Proofs.YtioijfplbgpjpaaGreat
namespace Go.Proofs.YtioijfplbgpjpaaGreat
set_option linter.unusedVariables false
set_option linter.unusedSimpArgs false
set_option maxRecDepth 100000
end Go.Proofs.YtioijfplbgpjpaaGreat
namespace Go.Proofs.YtioijfplbgpjpaaGreat
set_option linter.unusedVariables false
set_option linter.unusedSimpArgs false
set_option maxRecDepth 100000
open Go.RowKit
end Go.Proofs.YtioijfplbgpjpaaGreat
namespace Go.Proofs.YtioijfplbgpjpaaGreat
set_option linter.unusedVariables false
set_option linter.unusedSimpArgs false
set_option maxRecDepth 100000
open Go.RowKit
section
variable {α β:Type}
end
section
variable {α β:Type}
end
end Go.Proofs.YtioijfplbgpjpaaGreat
namespace Go.Proofs.YtioijfplbgpjpaaGreat
set_option linter.unusedVariables false
set_option linter.unusedSimpArgs false
set_option maxRecDepth 100000
open Go.RowKit
section
set_option linter.unusedSectionVars false
variable {α:Type} [Inhabited α] {P:α→Prop} {xs:List α} {x:α}
end
end Go.Proofs.YtioijfplbgpjpaaGreat
namespace Go.Proofs.YtioijfplbgpjpaaGreat
set_option linter.unusedVariables false
set_option linter.unusedSimpArgs false
set_option maxRecDepth 100000
open Go.RowKit
variable {r:Request}
end Go.Proofs.YtioijfplbgpjpaaGreat
namespace Go.Proofs.YtioijfplbgpjpaaGreat
set_option linter.unusedVariables false
set_option linter.unusedSimpArgs false
set_option maxRecDepth 100000
open Go.RowKit
end Go.Proofs.YtioijfplbgpjpaaGreat
namespace Go.Proofs.YtioijfplbgpjpaaGreat
set_option linter.unusedVariables false
set_option linter.unusedSimpArgs false
set_option maxRecDepth 100000
open Go.RowKit
section
variable {P:Program}
end
end Go.Proofs.YtioijfplbgpjpaaGreat
namespace Go.Proofs.YtioijfplbgpjpaaGreat
set_option linter.unusedVariables false
set_option linter.unusedSimpArgs false
set_option maxRecDepth 100000
open Go.RowKit
section
variable {P:Program}
end
section
variable {w w':World} {B0 base e K n:Nat} {v:Value} {xs:List Value}
end
section
variable {P:Program}
end
end Go.Proofs.YtioijfplbgpjpaaGreat
namespace Go.Proofs.YtioijfplbgpjpaaGreat
set_option linter.unusedVariables false
set_option linter.unusedSimpArgs false
set_option maxRecDepth 100000
open Go.RowKit
theorem one_String:∀ (y:ByteArray),∀ u∈cS y,u.oneCell'=true:=fun y u hu=>by simp [cS] at hu;subst hu;rfl
end Go.Proofs.YtioijfplbgpjpaaGreat
namespace Go.Proofs.YtioijfplbgpjpaaGreat
set_option linter.unusedVariables false
set_option linter.unusedSimpArgs false
set_option maxRecDepth 100000
open Go.RowKit
end Go.Proofs.YtioijfplbgpjpaaGreat
namespace Go.Proofs.YtioijfplbgpjpaaGreat
set_option linter.unusedVariables false
set_option linter.unusedSimpArgs false
set_option maxRecDepth 100000
open Go.RowKit
section
variable {α:Type} {f:α→List Value} {e K:Nat} {w w':World} {bs B:Nat} {v:Value} {xs:List α} {fp fp':List Nat}
end
section
variable {B:Nat} {W w w':World} {g:Nat} {t:TypeId} {cs:Array Value}
end
end Go.Proofs.YtioijfplbgpjpaaGreat
namespace Go.Proofs.YtioijfplbgpjpaaGreat
set_option linter.unusedVariables false
set_option linter.unusedSimpArgs false
set_option maxRecDepth 100000
open Go.RowKit
end Go.Proofs.YtioijfplbgpjpaaGreat
namespace Go.Proofs.YtioijfplbgpjpaaGreat
set_option linter.unusedVariables false
set_option linter.unusedSimpArgs false
set_option maxRecDepth 100000
open Go.RowKit Go.WideShapes Go.ChangeShapes Go.ChangeAt Go.Deep
open Go.ChangeMaps (open_string shut_string)
section
variable {H:Type} {enc:TypeId×Value→H} {P:Program}
end
section
variable {H:Type} {enc:TypeId×Value→H} {P:Program} {w:World} {held:Bool}
end
end Go.Proofs.YtioijfplbgpjpaaGreat
namespace Go.Proofs.YtioijfplbgpjpaaGreat
set_option linter.unusedVariables false
set_option linter.unusedSimpArgs false
set_option maxRecDepth 100000
open Go.RowKit Go.WideShapes Go.ChangeShapes Go.ChangeAt Go.Deep
set_option maxRecDepth 100000
end Go.Proofs.YtioijfplbgpjpaaGreat
namespace Go.Proofs.YtioijfplbgpjpaaGreat
set_option linter.unusedVariables false
set_option linter.unusedSimpArgs false
set_option maxRecDepth 100000
open Go.RowKit
end Go.Proofs.YtioijfplbgpjpaaGreat
namespace Go.Proofs.YtioijfplbgpjpaaGreat
set_option linter.unusedVariables false
set_option linter.unusedSimpArgs false
set_option maxRecDepth 100000
open Go.RowKit
end Go.Proofs.YtioijfplbgpjpaaGreat
namespace Go.Proofs.YtioijfplbgpjpaaGreat
set_option linter.unusedVariables false
set_option linter.unusedSimpArgs false
set_option maxRecDepth 100000
open Go.RowKit Go.WideShapes Go.ChangeShapes Go.ChangeAt Go.Deep
section
variable {H:Type} {enc:TypeId×Value→H} {P:Program} {w:World} {held:Bool}
end
end Go.Proofs.YtioijfplbgpjpaaGreat
namespace Go.Proofs.YtioijfplbgpjpaaGreat
set_option linter.unusedVariables false
set_option linter.unusedSimpArgs false
set_option maxRecDepth 100000
open Go.RowKit
section
variable {w W W':World} {l l1 l2:List Fact} {q q':Fact}
end
section
variable {w W W':World} {l l1 l2:List Fact} {g:Nat} {cs:Array Value} {t:TypeId} {v:Value} {r:Request} {fp:List Nat} {b:Nat}
end
section
variable {w W W':World} {l:List Fact} {q q2:Fact} {g B:Nat} {t:TypeId} {v:Value} {r:Request} {fp:List Nat}
end
section
variable {w W W':World} {l l1 l2:List Fact} {g b j:Nat} {cs:Array Value} {t:TypeId} {u v v':Value} {r r':Request} {fp:List Nat}
end
end Go.Proofs.YtioijfplbgpjpaaGreat
namespace Go.Proofs.YtioijfplbgpjpaaGreat
set_option linter.unusedVariables false
set_option linter.unusedSimpArgs false
set_option maxRecDepth 100000
open Go.RowKit
section
variable {w W W':World} {l l1 l2:List Fact} {q q':Fact}
end
section
variable {α:Type} {f:α→List Value} {e K base:Nat} {w W W':World} {l:List Fact} {v v':Value} {xs xs':List α} {fp:List Nat}
end
section
variable {α:Type} {f:α→List Value} {e K base:Nat} {w W W':World} {l:List Fact} {v:Value} {xs:List α} {fp:List Nat} {g n c k j:Nat} {x y:α} {us:List Value}
end
section
variable {α:Type} {F:α→α} {xs:List α} {k:Nat} {x:α}
end
end Go.Proofs.YtioijfplbgpjpaaGreat
namespace Go.Proofs.YtioijfplbgpjpaaGreat
set_option linter.unusedVariables false
set_option linter.unusedSimpArgs false
set_option maxRecDepth 100000
open Go.RowKit
theorem wapp_String {o:Oper} {a:Act} {K:Act→World→Prop} {Q:Exit→Act→World→Prop} {w:World} (s x:Operand)
  (ho:o.op=.call { callee:=.builtin .append,args:=#[s,x],argTypes:=#[59,59] }) {base bd B:Nat} {v:Value} {xs ys:List ByteArray} {fp:List Nat} {A:Option Addr} {m c:Nat} (hs:a.eval s=v)
  (hx:a.eval x=.slice A m c) (hr:RL bd 1 (flat cS) w B (.slice A m c) ys) (hown:OF cS 9 1 w base v xs fp) (hl:xs.length + ys.length≤33554432) (hbase:base≤w.heap.size)
  (h:∀ v' w',AppOF cS 9 1 w base (xs ++ ys) fp v' w'→K (a.put o.dst v') w'):o.wp Tryz.prog a w K Q:=by
 obtain ⟨i0,hi,hz0,hz1,hz2⟩:=info_parts info_str
 have hm:=hr.len_cap.1
 exact wp_appAll w s x 59 ho base 9 i0 _ 1 16 Tryz.underlying59 hi hz0 hz1 hz2 rfl (by omega) v _ _ hs hown.1 bd B cS A m c ys hx hr hm (fun _=>rfl) one_String (by unfold maxLen;omega) (by omega) hbase
  (fun v' w' h1 h2 h3=>h v' w' (OF.app_of_row (by rw [List.flatMap_append];exact h1) (by rw [List.length_append,hm]) h2 h3 hown.2))
theorem pappAll_String {ops:Array Oper} {rest:List Oper} {o:Oper} {a:Act} {Q:Exit→Act→World→Prop} {w:World} (s x:Operand) (hgd:o.guard=none)
  (ho:o.op=.call { callee:=.builtin .append,args:=#[s,x],argTypes:=#[59,59] }) {base bd B:Nat} {v:Value} {xs ys:List ByteArray} {fp:List Nat} {A:Option Addr} {m c:Nat} (hs:a.eval s=v)
  (hx:a.eval x=.slice A m c) (hr:RL bd 1 (flat cS) w B (.slice A m c) ys) (hown:OF cS 9 1 w base v xs fp) (hl:xs.length + ys.length≤33554432) (hbase:base≤w.heap.size)
  (h:∀ v' w',AppOF cS 9 1 w base (xs ++ ys) fp v' w'→wpList Tryz.prog ops Q rest (a.put o.dst v') w'):wpList Tryz.prog ops Q (o::rest) a w :=
 wpList_plain hgd fun _ hK=>wapp_String s x ho hs hx hr hown hl hbase fun v' w' ha=>hK _ _ (h v' w' ha)
theorem papp_String {ops:Array Oper} {rest:List Oper} {o:Oper} {a:Act} {Q:Exit→Act→World→Prop} {w:World} (s x:Operand) (hgd:o.guard=none)
  (ho:o.op=.call { callee:=.builtin .append,args:=#[s,x],argTypes:=#[59,59] }) {base:Nat} {v:Value} {xs:List ByteArray} {fp:List Nat} (y:ByteArray) {news:Array Value} {N:Nat} (hs:a.eval s=v)
  (hx:a.eval x=.slice (some ⟨N,0,none⟩) 1 1) (hN:w.heap[N]? = some (.cells news 9 (0,0))) (hy:news=(cS y).toArray) (hown:OF cS 9 1 w base v xs fp) (hl:xs.length < 16777216) (hbase:base≤w.heap.size)
  (h:∀ v' w',AppOF cS 9 1 w base (xs ++ [y]) fp v' w'→wpList Tryz.prog ops Q rest (a.put o.dst v') w'):wpList Tryz.prog ops Q (o::rest) a w :=
 pappAll_String s x hgd ho hs hx (RL_one1 hN hy rfl (Nat.lt_succ_self N)) hown (by simp;omega) hbase h
end Go.Proofs.YtioijfplbgpjpaaGreat
namespace Go.Proofs.YtioijfplbgpjpaaGreat
set_option linter.unusedVariables false
set_option linter.unusedSimpArgs false
set_option maxRecDepth 100000
open Go.RowKit
end Go.Proofs.YtioijfplbgpjpaaGreat
namespace Go.Proofs.YtioijfplbgpjpaaGreat
set_option linter.unusedVariables false
set_option linter.unusedSimpArgs false
set_option maxRecDepth 100000
open Go.RowKit
section
variable {w W W':World} {l l':List Fact}
end
section
variable {α:Type} {f:α→List Value} {e K base:Nat} {w w':World} {v:Value} {xs:List α} {fp:List Nat} {g n c k:Nat} {x:α}
end
section
variable {α:Type} {inn:α→List Int} {w W W':World} {base B:Nat} {zs zs':List (α×Value)} {fp fp':List Nat} {l:List Fact} {k:Nat} {z:α×Value} {a:α} {v:Value} {ys:List Int}
end
end Go.Proofs.YtioijfplbgpjpaaGreat
namespace Go.Proofs.YtioijfplbgpjpaaGreat
set_option linter.unusedVariables false
set_option linter.unusedSimpArgs false
set_option maxRecDepth 100000
open Go.RowKit
section
variable {α:Type} {hd:α→Value→List Value} {inn:α→List Int}
end
end Go.Proofs.YtioijfplbgpjpaaGreat
namespace Go.Proofs.YtioijfplbgpjpaaGreat
set_option linter.unusedVariables false
set_option linter.unusedSimpArgs false
set_option maxRecDepth 100000
open Go.RowKit
section
variable {α:Type} {f:α→List Value} {e K:Nat} {w W W':World} {l:List Fact} {b:Nat} {v:Value} {xs:List α} {fp:List Nat}
end
section
variable {α:Type} {hd:α→Value→List Value} {inn:α→List Int} {e K B:Nat} {w W1 W2 W3 W:World} {l:List Fact} {u v v':Value} {zs:List (α×Value)} {f f1 f2 f3:List Nat} {x:α} {ys:List Int} {g n c k j:Nat} {us:List Value}
end
end Go.Proofs.YtioijfplbgpjpaaGreat
namespace Go.Proofs.YtioijfplbgpjpaaGreat
set_option linter.unusedVariables false
set_option linter.unusedSimpArgs false
set_option maxRecDepth 100000
open Go.RowKit
end Go.Proofs.YtioijfplbgpjpaaGreat
namespace Go.Proofs.YtioijfplbgpjpaaGreat
set_option linter.unusedVariables false
set_option linter.unusedSimpArgs false
set_option maxRecDepth 100000
open Go.RowKit
end Go.Proofs.YtioijfplbgpjpaaGreat
namespace Go.Proofs.YtioijfplbgpjpaaGreat
set_option linter.unusedVariables false
set_option linter.unusedSimpArgs false
set_option maxRecDepth 100000
open Go.RowKit
set_option maxRecDepth 100000
end Go.Proofs.YtioijfplbgpjpaaGreat
namespace Go.Proofs.YtioijfplbgpjpaaGreat
set_option linter.unusedVariables false
set_option linter.unusedSimpArgs false
set_option maxRecDepth 100000
open Go.RowKit
end Go.Proofs.YtioijfplbgpjpaaGreat
namespace Go.Proofs.YtioijfplbgpjpaaGreat
set_option linter.unusedVariables false
set_option linter.unusedSimpArgs false
set_option maxRecDepth 100000
open Go.RowKit
end Go.Proofs.YtioijfplbgpjpaaGreat
namespace Go.Proofs.YtioijfplbgpjpaaGreat
set_option linter.unusedVariables false
set_option linter.unusedSimpArgs false
set_option maxRecDepth 100000
open Go.RowKit
section
variable {α:Type} {f:α→List Value} {inn:α→List Int} {W:World} {e K base n c g i k:Nat} {F:Option Addr} {xs:List α} {zs:List (α×Value)} {fp:List Nat} {x a:α} {u:Value} {y:Int}
end
end Go.Proofs.YtioijfplbgpjpaaGreat
namespace Go.Proofs.YtioijfplbgpjpaaGreat
set_option linter.unusedVariables false
set_option linter.unusedSimpArgs false
set_option maxRecDepth 100000
section
variable {P:Program} {ops:Array Oper} {Q:Exit→Act→World→Prop} {S:World→Prop}
end
section
variable {P:Program} {ops:Array Oper} {Q:Exit→Act→World→Prop} {S:World→Prop} {listed l':Array Bool} {a b:Act} {w:World} {oi:Oper} {v:Value} {i:Nat} {rs:List Nat}
end
section
end
end Go.Proofs.YtioijfplbgpjpaaGreat
namespace Go.Proofs.YtioijfplbgpjpaaGreat
set_option linter.unusedVariables false
set_option linter.unusedSimpArgs false
set_option maxRecDepth 100000
open Go.RowKit
end Go.Proofs.YtioijfplbgpjpaaGreat
namespace Go.Proofs.YtioijfplbgpjpaaGreat
set_option linter.unusedVariables false
set_option linter.unusedSimpArgs false
set_option maxRecDepth 100000
open Go.RowKit
end Go.Proofs.YtioijfplbgpjpaaGreat
namespace Go.Proofs.YtioijfplbgpjpaaGreat
set_option linter.unusedVariables false
set_option linter.unusedSimpArgs false
set_option maxRecDepth 100000
open Go.RowKit
end Go.Proofs.YtioijfplbgpjpaaGreat
namespace Go.Proofs.YtioijfplbgpjpaaGreat
set_option linter.unusedVariables false
set_option linter.unusedSimpArgs false
set_option maxRecDepth 100000
open Go.RowKit
end Go.Proofs.YtioijfplbgpjpaaGreat
namespace Go.Proofs.YtioijfplbgpjpaaGreat
set_option linter.unusedVariables false
set_option linter.unusedSimpArgs false
set_option maxRecDepth 100000
open Go.RowKit
end Go.Proofs.YtioijfplbgpjpaaGreat
namespace Go.Proofs.YtioijfplbgpjpaaGreat
set_option linter.unusedVariables false
set_option linter.unusedSimpArgs false
set_option maxRecDepth 100000
open Go.RowKit
theorem place_of {b:Box} {s:Spot} (hw:0 < b.w∧b.w≤2000) (hd:0 < b.d∧b.d≤2000) (hh:0 < b.h∧b.h≤2000) (hx:0≤s.x∧s.x≤2000) (hy:0≤s.y∧s.y≤2000) (hz:0≤s.z∧s.z≤2000):placeB b s=true:=by
 simp only [placeB,inB,Bool.and_eq_true,decide_eq_true_eq]
 omega
end Go.Proofs.YtioijfplbgpjpaaGreat
namespace Go.Proofs.YtioijfplbgpjpaaGreat
set_option linter.unusedVariables false
set_option linter.unusedSimpArgs false
set_option maxRecDepth 100000
open Go.RowKit
def covB (r:Request) (x:Plan) (k z px py:Int) (i:Nat):Bool:=overB (boxAt r x i) (spotAt x i) point ⟨k,px,py,z⟩
def sign (i:Int):Int:=97 + i.tmod 26
def pixS (r:Request) (x:Plan) (k z px py:Int):Int:=if firstI (covB r x k z px py) (List.range x.cartons.length) < 0 then 46 else sign (firstI (covB r x k z px py) (List.range x.cartons.length))
def inXY (r:Request) (x:Plan) (px py i:Int):Bool:=(decide ((spotAt x i).y≤py) && decide (py < (spotAt x i).y + (boxAt r x i).d)) && (decide ((spotAt x i).x≤px) && decide (px < (spotAt x i).x + (boxAt r x i).w))
def pixStep (r:Request) (x:Plan) (px py c i:Int):Int:=if inXY r x px py i=true then sign i else c
def pixI (r:Request) (x:Plan) (k z px py:Int):Int:=(atHeight r x k z).foldl (pixStep r x px py) 46
section
variable {r:Request} {x:Plan} {k z px py:Int}
theorem cov_iff (h:feasible r x=true) (hx:0≤px∧px≤2000) (hy:0≤py∧py≤2000) (hz:0≤z∧z≤2000) {j:Nat} (hj:j < x.cartons.length):covB r x k z px py j=true↔(j:Int)∈atHeight r x k z∧inXY r x px py j=true:=by
 obtain ⟨a1,a2,a3,a4,a5,a6,_⟩:=within_facts (feas_inside h hj)
 rw [atHeight_mem h]
 unfold covB overB
 rw [place_of a1 a2 a3 a4 a5 a6,place_of (b:=point) (s:=⟨k,px,py,z⟩) (by decide) (by decide) (by decide) hx hy hz]
 unfold inXY
 simp only [crossB,show point.w=1 from rfl,show point.d=1 from rfl,show point.h=1 from rfl,Bool.and_eq_true,decide_eq_true_eq,beq_iff_eq,true_and]
 constructor
 ·rintro ⟨h1,⟨h2,h3⟩,⟨h4,h5⟩,h6,h7⟩
  exact ⟨⟨j,rfl,hj,h1,by omega,by omega⟩,⟨by omega,by omega⟩,by omega,by omega⟩
 ·rintro ⟨⟨i,hi,_,h1,h2,h3⟩,⟨h4,h5⟩,h6,h7⟩
  obtain rfl:j=i:=by omega
  exact ⟨h1,⟨by omega,by omega⟩,⟨by omega,by omega⟩,by omega,by omega⟩
theorem cov_one (h:feasible r x=true) (hx:0≤px∧px≤2000) (hy:0≤py∧py≤2000) (hz:0≤z∧z≤2000) {i j:Nat} (hi:i < x.cartons.length) (hj:j < x.cartons.length) (hci:covB r x k z px py i=true) (hcj:covB r x k z px py j=true):i=j:=by
 have hw:∀ {i j:Nat},i < x.cartons.length→j < i→covB r x k z px py i=true→covB r x k z px py j=true→False:=by
  intro i j hi hji hci hcj
  have hj:j < x.cartons.length:=by omega
  have ho:=feas_apart h hi hji
  obtain ⟨a1,a2,a3,a4,a5,a6,_⟩:=within_facts (feas_inside h hi)
  obtain ⟨b1,b2,b3,b4,b5,b6,_⟩:=within_facts (feas_inside h hj)
  obtain ⟨p1,p2⟩:=(cov_iff h hx hy hz hi).1 hci
  obtain ⟨q1,q2⟩:=(cov_iff h hx hy hz hj).1 hcj
  obtain ⟨i',e1,_,p3,p4,p5⟩:=(atHeight_mem h).1 p1
  obtain ⟨j',e2,_,q3,q4,q5⟩:=(atHeight_mem h).1 q1
  obtain rfl:i=i':=by omega
  obtain rfl:j=j':=by omega
  unfold inXY at p2 q2
  simp only [Bool.and_eq_true,decide_eq_true_eq] at p2 q2
  unfold overB at ho
  rw [place_of a1 a2 a3 a4 a5 a6,place_of b1 b2 b3 b4 b5 b6] at ho
  have:(overB (boxAt r x i) (spotAt x i) (boxAt r x j) (spotAt x j))=true:=by
   unfold overB
   rw [place_of a1 a2 a3 a4 a5 a6,place_of b1 b2 b3 b4 b5 b6]
   simp only [crossB,Bool.and_eq_true,decide_eq_true_eq,beq_iff_eq,true_and]
   omega
  unfold overB at this
  rw [place_of a1 a2 a3 a4 a5 a6,place_of b1 b2 b3 b4 b5 b6,ho] at this
  cases this
 rcases Nat.lt_trichotomy i j with hl | he | hl
 ·exact (hw hj hl hcj hci).elim
 ·exact he
 ·exact (hw hi hl hci hcj).elim
theorem fold_none (px py:Int):∀ (l:List Int) (c:Int),(∀ u∈l,inXY r x px py u=false)→l.foldl (pixStep r x px py) c=c
 |[],_,_=>rfl
 |u::l,c,h=>by
  rw [List.foldl_cons]
  have e:pixStep r x px py c u=c:=by unfold pixStep;rw [h u (by simp)];rfl
  rw [e]
  exact fold_none px py l c (fun y hy=>h y (by simp [hy]))
theorem fold_one (px py:Int) (i:Int):∀ (l:List Int) (c:Int),i∈l ∨ c=sign i→inXY r x px py i=true→(∀ u∈l,inXY r x px py u=true→u=i)→l.foldl (pixStep r x px py) c=sign i
 |[],c,h,_,_=>h.elim (fun h=>by simp at h) id
 |u::l,c,h,hi,hu=>by
  rw [List.foldl_cons]
  refine fold_one px py i l _ ?_ hi (fun y hy=>hu y (by simp [hy]))
  by_cases hc:inXY r x px py u=true
  ·have:=hu u (by simp) hc
   subst this
   exact .inr (by unfold pixStep;rw [if_pos hc])
  ·have e:pixStep r x px py c u=c:=by unfold pixStep;rw [if_neg hc]
   rw [e]
   rcases h with h | h
   ·rcases List.mem_cons.1 h with rfl | h
    ·exact absurd hi hc
    ·exact .inl h
   ·exact .inr h
theorem pix_eq (h:feasible r x=true) (hx:0≤px∧px≤2000) (hy:0≤py∧py≤2000) (hz:0≤z∧z≤2000):pixI r x k z px py=pixS r x k z px py:=by
 have hmem:∀ u∈atHeight r x k z,∃ j:Nat,u=j∧j < x.cartons.length:=fun u hu=>by
  obtain ⟨j,e,hj,_⟩:=(atHeight_mem h).1 hu
  exact ⟨j,e,hj⟩
 unfold pixI pixS firstI firstFrom
 rw [List.drop_zero]
 cases hf:(List.range x.cartons.length).findIdx? (covB r x k z px py) with
 |none =>
  simp only
  rw [if_pos (by omega)]
  refine fold_none px py _ _ fun u hu=>?_
  obtain ⟨j,rfl,hj⟩:=hmem u hu
  have:=List.findIdx?_eq_none_iff.1 hf j (List.mem_range.2 hj)
  refine Bool.eq_false_iff.2 fun hc=>?_
  rw [(cov_iff h hx hy hz hj).2 ⟨hu,hc⟩] at this
  cases this
 |some n =>
  obtain ⟨h1,h2,_⟩:=List.findIdx?_eq_some_iff_getElem.1 hf
  rw [List.length_range] at h1
  rw [List.getElem_range] at h2
  simp only [Nat.zero_add]
  rw [if_neg (by omega)]
  obtain ⟨p1,p2⟩:=(cov_iff h hx hy hz h1).1 h2
  refine fold_one px py _ _ _ (.inl p1) p2 fun u hu hc=>?_
  obtain ⟨j,rfl,hj⟩:=hmem u hu
  rw [cov_one h hx hy hz hj h1 ((cov_iff h hx hy hz hj).2 ⟨hu,hc⟩) h2]
end
end Go.Proofs.YtioijfplbgpjpaaGreat
namespace Go.Proofs.YtioijfplbgpjpaaGreat
set_option linter.unusedVariables false
set_option linter.unusedSimpArgs false
set_option maxRecDepth 100000
open Go.RowKit
section
variable {r:Request} {x:Plan} {k z:Int}
end
end Go.Proofs.YtioijfplbgpjpaaGreat
namespace Go.Proofs.YtioijfplbgpjpaaGreat
set_option linter.unusedVariables false
set_option linter.unusedSimpArgs false
set_option maxRecDepth 100000
open Go.RowKit
section
variable {r:Request} {x:Plan} {k:Int}
end
end Go.Proofs.YtioijfplbgpjpaaGreat
namespace Go.Proofs.YtioijfplbgpjpaaGreat
set_option linter.unusedVariables false
set_option linter.unusedSimpArgs false
set_option maxRecDepth 100000
open Go.RowKit Go.WideShapes Go.ChangeShapes Go.ChangeAt Go.Deep
theorem boxAt_nat {r:Request} {x:Plan} {i:Nat} {c:Carton} (h:x.cartons[i]? = some c):boxAt r x (i:Int)=boxR r c:=by unfold boxAt;rw [cartAt_at h]
theorem box_field2 (a b c d:Int) (W:World):(Instr.field 75 (.agg #[.int .i64 a,.int .i64 b,.int .i64 c,.int .i64 d]) 2).run Tryz.prog W=.ok (.int .i64 c) W:=by first | rfl | (simp [Instr.field,go_sem,Tryz.underlying75])
end Go.Proofs.YtioijfplbgpjpaaGreat
namespace Go.Proofs.YtioijfplbgpjpaaGreat
set_option linter.unusedVariables false
set_option linter.unusedSimpArgs false
set_option maxRecDepth 100000
open Go.RowKit Go.WideShapes Go.ChangeShapes Go.ChangeAt Go.Deep
set_option maxRecDepth 100000
end Go.Proofs.YtioijfplbgpjpaaGreat
namespace Go.Proofs.YtioijfplbgpjpaaGreat
set_option linter.unusedVariables false
set_option linter.unusedSimpArgs false
set_option maxRecDepth 100000
open Go.RowKit Go.WideShapes Go.ChangeShapes Go.ChangeAt Go.Deep
theorem filter_step {l:List Int} {j:Nat} {i:Int} {p:Int→Bool} {f:Bool} (h:l[j]? = some i) (hf:p i=f):(l.take (j + 1)).filter p=(l.take j).filter p ++ (if f=true then [i] else []):=by
 rw [List.take_add_one,h,List.filter_append]
 simp only [Option.toList_some,List.filter_cons,List.filter_nil,hf]
theorem filter_take_le {l:List Int} {j:Nat} (p:Int→Bool):((l.take j).filter p).length≤j:=Nat.le_trans (List.length_filter_le _ _) (by rw [List.length_take];omega)
theorem atHeight_le (r:Request) (x:Plan) (k z:Int):(atHeight r x k z).length≤x.cartons.length:=by unfold atHeight;exact Nat.le_trans (List.length_filter_le _ _) (onPal_le x k)
theorem atHeight_in {r:Request} {x:Plan} {k z:Int} {j:Nat} {i:Int} (h:(atHeight r x k z)[j]? = some i):∃ m:Nat,i=m∧m < x.cartons.length∧m < x.spots.length:=by
 have hm:=List.mem_of_getElem? h
 unfold atHeight at hm
 obtain ⟨j2,hj2⟩:=List.mem_iff_getElem?.1 (List.mem_filter.1 hm).1
 exact onPal_in hj2
set_option maxRecDepth 100000 in
set_option maxHeartbeats 2000000 in
theorem iatHeight_any (v vx:Value) (r:Request) (x:Plan) (k z:Int) (w:World) (h:RReq 16777216 w w.heap.size v r) (hx:RPlan 16777216 w w.heap.size vx x):Calls Tryz.prog 105 #[v,vx,.int .i64 k,.int .i64 z] w (MInts w (atHeight r x k z)):=by
 have HR:=Lib.hid h
 have HX:=Lib.hid hx
 obtain ⟨A1,c1,A2,c2,A3,c3,rfl,_⟩:=h.opn
 obtain ⟨PA,ca,PB,cb,rfl,HPA,HPB,hla,hlb⟩:=hx.opn
 have hol:=onPal_le x k
 have hS:=(((Sit.here w).alloc (cR r A1 c1 A2 c2 A3 c3) 41).alloc #[.slice PA x.cartons.length ca,.slice PB x.spots.length cb] 46).alloc #[] 3
 simp only [World.size_alloc] at hS
 have SN:=Lib.hid (hS.boxNil cI 1)
 clear h hx hS
 go_enter Tryz.func105,Tryz.ntmps105
 have k1:=SN.out.box (.tail _ (.head _))
 have l1:=SN.out.boxlt (.tail _ (.head _))
 go_wp2_with fail
 refine (iOnPallet_any _ x k _ (HX.out.next SN.out.low)).mono ?_
 intro e2 w2 hm
 obtain ⟨v2,fk,rfl,hS⟩:=SN.out.gotInts hm
 obtain ⟨D,d,rfl,_⟩:=(hS.list (.head _)).form
 have SN:=Lib.hid hS.rot2
 clear k1 l1 hS hm
 go_wp2
 go_loopw [9,17] (fun vv i wr=>∃ (j:Nat) (fp:List Nat),j≤(onPal x k).length∧i=.int .i64 j∧Hid (Sit w wr [fOF cI 3 1 w.heap.size vv (((onPal x k).take j).filter (atH r x z)) fp,fOF cI 3 1 w.heap.size (.slice D (onPal x k).length d) (onPal x k) fk,fBox (w.heap.size + 1) #[.slice PA x.cartons.length ca,.slice PB x.spots.length cb] 46,fBox w.heap.size (cR r A1 c1 A2 c2 A3 c3) 41])) (fun _ i _=>(onPal x k).length - (intOf i).toNat)
 case atStart=>exact ⟨0,_,Nat.zero_le _,rfl,SN⟩
 case round =>
  clear SN
  obtain ⟨j,fp,hj,rfl,SN⟩:=hrel
  by_cases hlt:j < (onPal x k).length
  ·obtain ⟨i,hi⟩:∃ i,(onPal x k)[j]? = some i:=⟨_,List.getElem?_eq_getElem hlt⟩
   obtain ⟨m,rfl,hm1,hm2⟩:=onPal_in hi
   obtain ⟨gd,rfl⟩:=head_ptr (SN.out.list (.tail _ (.head _))) hi
   have hcu:=(SN.out.list (.tail _ (.head _))).cells (fun z=>rfl) hi 0 (.int .i64 (m:Int)) rfl
   rw [Nat.mul_one,Nat.add_zero] at hcu
   obtain ⟨b,off,c,U,cu,rfl,hb,hc,HU,HC⟩:=HPA.out.one m hm1
   obtain ⟨b2,off2,s,rfl,hb2,hs,HC2⟩:=HPB.out.one m hm2
   obtain ⟨bx,hbx⟩:∃ bx,boxR r c=bx:=⟨_,rfl⟩
   have HBX:=Lib.hid hbx
   obtain ⟨f,hf⟩:∃ f,inB z s.z (wrap64 (wrap64 (s.z + bx.h) - 1))=f:=⟨_,rfl⟩
   have HF:=Lib.hid hf
   have HST:=Lib.hid (filter_step (p:=atH r x z) hi (show atH r x z (m:Int)=f by unfold atH;rw [spotAt_at hs,boxAt_nat hc,hbx,hf]))
   have hln:=filter_take_le (l:=onPal x k) (j:=j) (atH r x z)
   have HCC:=Lib.hid (show ∀ X:World,Below wr.heap.size wr X→(cS10 (X) (w.heap.size) (r) (.slice A1 r.pairs.length c1) (.slice A2 r.types.length c2) (.slice A3 r.items.length c3))∧(X.cell? ⟨w.heap.size + 1,0,none⟩=some (.slice (some ⟨b,off,none⟩) x.cartons.length ca)∧X.cell? ⟨w.heap.size + 1,1,none⟩=some (.slice (some ⟨b2,off2,none⟩) x.spots.length cb))∧(cC3 (X) (b) (off) (m) (c) (.slice U c.units.length cu))∧cS4 (X) (b2) (off2) (m) (s) from fun X hX=>by
    have hX:=SN.out.next hX
    have c0:=hX.box (.tail _ (.tail _ (.tail _ (.head _))))
    exact ⟨⟨c0 0,c0 1,c0 2,c0 3,c0 4,c0 5,c0 6,c0 7,c0 8,c0 9⟩,⟨hX.box (.tail _ (.tail _ (.head _))) 0,hX.box (.tail _ (.tail _ (.head _))) 1⟩,HC.out X hX.low,HC2.out X hX.low⟩)
   have hfld:=fun W=>box_field2 bx.w bx.d bx.h bx.gram W
   clear hi hc hs hbx hf
   go_wp2
   refine regu (S:=(fun W'=>((cS10 (W') (w.heap.size) (r) (.slice A1 r.pairs.length c1) (.slice A2 r.types.length c2) (.slice A3 r.items.length c3)))∧(W'.cell? ⟨w.heap.size + 1,0,none⟩=some (.slice (some ⟨b,off,none⟩) x.cartons.length ca)∧W'.cell? ⟨w.heap.size + 1,1,none⟩=some (.slice (some ⟨b2,off2,none⟩) x.spots.length cb))∧(cC3 (W') (b) (off) (m) (c) (.slice U c.units.length cu))∧cS4 (W') (b2) (off2) (m) (s))) (by kernel_rfl) (fun _ _ _ _ _=>id) ?_ fun hHeld=>?_
   ·(first | (refine HCC.out _ ?_;(repeat' with_reducible first | assumption | exact bR | apply bD | apply bA | apply bC | apply bW | omega | simp <;> omega);done) | go_keep)
   refine tku (b:=?_) [0,1,2,3,4,5,6,7,8,9,10,11,12,13,14,15,16,17,18] (by kernel_rfl) hHeld ?_ ?_
   rotate_left
   ·repeat first
    |exact .nil
    |refine .yes (v:=?_) rfl (by rfl) ?_ ?_
     rotate_left
     ·intro w9 hSw;(try dsimp only at hSw);go_simp;(try with_reducible rfl)
     (try simp only [aP,aZ,aS,aG,aH,aI])
   refine onu 19 rfl (by kernel_rfl) fun K hK=>?_
   go_simp
   ((go_at_call 53;refine (iBoxOf_any _ _ r c _ (HR.out.next (SN.out.next (by (repeat' with_reducible first | assumption | exact bR | apply bD | apply bA | apply bC | apply bW | omega | simp <;> omega))).low) (HU.out.next (flat_mono _) (SN.out.next (by (repeat' with_reducible first | assumption | exact bR | apply bD | apply bA | apply bC | apply bW | omega | simp <;> omega))).low)).mono ?_;rintro e w3 ⟨rfl,hb3⟩;rw [HBX.out];have hn3:=bstep (a:=wr) (by (repeat' with_reducible first | assumption | exact bR | apply bD | apply bA | apply bC | apply bW | omega | simp <;> omega)) hb3))
   refine hK.out _ _ ?_ (fun hHeld=>?_)
   ·(first | (refine HCC.out _ ?_;(repeat' with_reducible first | assumption | exact bR | apply bD | apply bA | apply bC | apply bW | omega | simp <;> omega);done) | go_keep)
   clear hK K
   (try simp only [aP,aZ,aS,aG,aH,aI])
   refine tku (b:=?_) [20,21,22] (by kernel_rfl) hHeld ?_ ?_
   rotate_left
   ·repeat first
    |exact .nil
    |refine .yes (v:=?_) rfl (by rfl) ?_ ?_
     rotate_left
     ·intro w9 hSw;(try dsimp only at hSw);go_simp;(try with_reducible rfl)
     (try simp only [aP,aZ,aS,aG,aH,aI])
   refine lsu 23 rfl (by kernel_rfl) fun K hK=>?_
   go_simp
   ((go_at_call 114;(try simp only [wrapE]);refine (in_any _ _ _ _).mono ?_;rintro e w' ⟨rfl,rfl⟩;rw [HF.out]))
   refine hK.out _ _ ?_
   clear hK K
   (try simp only [aP,aZ,aS,aG,aH,aI])
   skip
   have SN:=Lib.hid (SN.out.next hn3)
   clear hn3 hb3
   cases f
   ·go_wp2
    go_roundw
    case rel=>exact ⟨j + 1,_,hlt,by go_num,by rw [HST.out];simpa using SN⟩
    case measure=>simp [intOf] <;> omega
   ·go_wp2_with (at_builtin;refine papp_Int _ _ rfl rfl ((m:Int)) rfl rfl (alloc_at (by first | rfl | (simp;done) | (simp;omega))) rfl ((SN.out.list (.head _)).next (by repeat' with_reducible first | assumption | exact bR | apply bD | apply bA | apply bC | apply bN | simp <;> omega)) (by first | omega | (simp;omega)) (by have:=SN.out.low.size;first | omega | (simp;done) | (simp;omega) | (simp at this ⊢;omega)) ?_;intro v7 w7 ha;obtain ⟨g7,S7⟩:=(SN.out.next (by repeat' with_reducible first | assumption | exact bR | apply bD | apply bA | apply bC | apply bN | simp <;> omega)).app ha;have S8:=Lib.hid S7;clear S7 ha)
    go_roundw
    case rel=>exact ⟨j + 1,_,hlt,by go_num,by rw [HST.out];exact S8⟩
    case measure=>simp [intOf] <;> omega
  ·obtain rfl:j=(onPal x k).length:=by omega
   rw [List.take_length] at SN
   go_wp2
   go_ret
   exact SN.out.ints
set_option maxRecDepth 100000 in
set_option maxHeartbeats 2000000 in
theorem iCovered_any (v vx:Value) (r:Request) (x:Plan) (k z:Int) (w:World) (h:RReq 16777216 w w.heap.size v r) (hx:RPlan 16777216 w w.heap.size vx x) (hL:x.bulk≤16777216):Calls Tryz.prog 28 #[v,vx,.int .i64 k,.int .i64 z] w fun e w'=>e=.returned (.int .i64 (coveredR r x k z))∧Below w.heap.size w w':=by
 have HR:=Lib.hid h
 have HX:=Lib.hid hx
 obtain ⟨A1,c1,A2,c2,A3,c3,rfl,_⟩:=h.opn
 obtain ⟨PA,ca,PB,cb,rfl,HPA,HPB,hla,hlb⟩:=hx.opn
 have hol:=atHeight_le r x k z
 have hS:=((Sit.here w).alloc (cR r A1 c1 A2 c2 A3 c3) 41).alloc #[.slice PA x.cartons.length ca,.slice PB x.spots.length cb] 46
 simp only [World.size_alloc] at hS
 have SN:=Lib.hid hS
 obtain ⟨q,hq⟩:∃ q,feasible r x=q:=⟨_,rfl⟩
 have HQ:=Lib.hid hq
 have HM:=Lib.hid (show coveredR r x k z=if q=true then (atHeight r x k z).foldl (covStep r x) 0 else 0 by unfold coveredR;rw [hq])
 have HIN:=Lib.hid (fun (j:Nat) (i:Int) (h:(atHeight r x k z)[j]? = some i)=>atHeight_in h)
 obtain ⟨L,hLL⟩:∃ L,atHeight r x k z=L:=⟨_,rfl⟩
 have HLL:=Lib.hid hLL
 rw [hLL] at hol HM HIN
 clear h hx hS hq hLL
 go_enter Tryz.func28,Tryz.ntmps28
 have k0:=SN.out.box (.tail _ (.head _));have l0:=SN.out.boxlt (.tail _ (.head _));have k1:=SN.out.box (.head _);have l1:=SN.out.boxlt (.head _)
 go_wp2_with fail
 refine (iFeasible_any _ _ r x _ (HR.out.next SN.out.low) (HX.out.next SN.out.low) hL).mono ?_
 rintro e1 w1 ⟨rfl,hb1⟩
 rw [HQ.out]
 have SN:=Lib.hid (SN.out.next hb1)
 clear k0 l0 k1 l1 hb1
 cases q
 ·go_wp2
  go_ret
  exact ⟨by rw [HM.out];rfl,SN.out.low⟩
 have k0:=SN.out.box (.tail _ (.head _));have l0:=SN.out.boxlt (.tail _ (.head _));have k1:=SN.out.box (.head _);have l1:=SN.out.boxlt (.head _)
 go_wp2_with fail
 refine (iatHeight_any _ _ r x k z _ (HR.out.next SN.out.low) (HX.out.next SN.out.low)).mono ?_
 intro e2 w2 hm
 rw [HLL.out] at hm
 obtain ⟨v2,fk,rfl,hS⟩:=SN.out.gotInts hm
 obtain ⟨D,d,rfl,_⟩:=(hS.list (.head _)).form
 have SN:=Lib.hid hS
 clear k0 l0 k1 l1 hS hm
 go_wp2
 go_loopw [9,23] (fun n i wr=>∃ (j:Nat),j≤L.length∧i=.int .i64 j∧n=.int .i64 ((L.take j).foldl (covStep r x) 0)∧Hid (Sit w wr [fOF cI 3 1 w.heap.size (.slice D L.length d) (L) fk,fBox (w.heap.size + 1) #[.slice PA x.cartons.length ca,.slice PB x.spots.length cb] 46,fBox w.heap.size (cR r A1 c1 A2 c2 A3 c3) 41])) (fun _ i _=>L.length - (intOf i).toNat)
 case atStart=>exact ⟨0,Nat.zero_le _,rfl,rfl,SN⟩
 case round =>
  clear SN
  obtain ⟨j,hj,rfl,rfl,SN⟩:=hrel
  by_cases hlt:j < L.length
  ·obtain ⟨i,hi⟩:∃ i,L[j]? = some i:=⟨_,List.getElem?_eq_getElem hlt⟩
   obtain ⟨m,rfl,hm1,hm2⟩:=HIN.out j i hi
   obtain ⟨gd,rfl⟩:=head_ptr (SN.out.list (.head _)) hi
   have hcu:=(SN.out.list (.head _)).cells (fun z=>rfl) hi 0 (.int .i64 (m:Int)) rfl
   rw [Nat.mul_one,Nat.add_zero] at hcu
   obtain ⟨b,off,c,U,cu,rfl,hb,hc,HU,HC⟩:=HPA.out.one m hm1
   have HST:=Lib.hid (foldl_take_step (f:=covStep r x) (b:=0) hi)
   obtain ⟨G,hG⟩:∃ G,(L.take j).foldl (covStep r x) 0=G:=⟨_,rfl⟩
   obtain ⟨bx,hbx⟩:∃ bx,boxR r c=bx:=⟨_,rfl⟩
   have HBX:=Lib.hid hbx
   have HG:=Lib.hid (show covStep r x G (m:Int)=wrap64 (G + wrap64 (bx.w * bx.d)) by unfold covStep;rw [boxAt_nat hc,hbx])
   rw [hG] at HST ⊢
   have HCC:=Lib.hid (show ∀ X:World,Below wr.heap.size wr X→(cS10 (X) (w.heap.size) (r) (.slice A1 r.pairs.length c1) (.slice A2 r.types.length c2) (.slice A3 r.items.length c3))∧X.cell? ⟨w.heap.size + 1,0,none⟩=some (.slice (some ⟨b,off,none⟩) x.cartons.length ca)∧(cC3 (X) (b) (off) (m) (c) (.slice U c.units.length cu)) from fun X hX=>by
    have hX:=SN.out.next hX
    have c0:=hX.box (.tail _ (.tail _ (.head _)))
    exact ⟨⟨c0 0,c0 1,c0 2,c0 3,c0 4,c0 5,c0 6,c0 7,c0 8,c0 9⟩,hX.box (.tail _ (.head _)) 0,HC.out X hX.low⟩)
   clear hi hc hG hbx
   go_upto_region 7 with fail
   clear hcu
   go_cut [12] (fun v8 X=>∃ g8,v8=.pointer (some ⟨g8,0,none⟩)∧Hid (Sit w X [fBox g8 #[.int .i64 bx.w,.int .i64 bx.d,.int .i64 bx.h,.int .i64 bx.gram] 75,fOF cI 3 1 w.heap.size (.slice (some ⟨gd,0,none⟩) L.length d) (L) fk,fBox (w.heap.size + 1) #[.slice (some ⟨b,off,none⟩) x.cartons.length ca,.slice PB x.spots.length cb] 46,fBox w.heap.size (cR r A1 c1 A2 c2 A3 c3) 41]))
   case first =>
    go_region_held3 (fun W'=>((cS10 (W') (w.heap.size) (r) (.slice A1 r.pairs.length c1) (.slice A2 r.types.length c2) (.slice A3 r.items.length c3)))∧W'.cell? ⟨w.heap.size + 1,0,none⟩=some (.slice (some ⟨b,off,none⟩) x.cartons.length ca)∧(cC3 (W') (b) (off) (m) (c) (.slice U c.units.length cu))) (first | (refine HCC.out _ ?_;(repeat' with_reducible first | assumption | exact bR | apply bD | apply bA | apply bC | apply bW | omega | simp <;> omega);done) | go_keep) (first | (go_at_call 53;(try (first | refine calls_new ?_ | refine calls_newd ?_);intro hg);refine (iBoxOf_any _ _ r c _ (HR.out.next (SN.out.next (by (repeat' with_reducible first | assumption | exact bR | apply bD | apply bA | apply bC | apply bW | omega | simp <;> omega))).low) (HU.out.next (flat_mono _) (SN.out.next (by (repeat' with_reducible first | assumption | exact bR | apply bD | apply bA | apply bC | apply bW | omega | simp <;> omega))).low)).mono ?_;rintro e w2 ⟨rfl,hb2⟩;rw [HBX.out];have hn2:=bstep (a:=wr) (by (repeat' with_reducible first | assumption | exact bR | apply bD | apply bA | apply bC | apply bW | omega | simp <;> omega)) hb2;have hz2:=hn2.size;have hj2:=hb2.size;(try simp only [World.size_alloc,World.size_drew] at hj2);have SE:=Lib.hid ((SN.out.drew.alloc #[.int .i64 0,.int .i64 0,.int .i64 0,.int .i64 0] 75));(first | (have SE:=Lib.hid (SE.out.next hb2)) | skip);have SN:=Lib.hid ((SN.out.next (by (repeat' with_reducible first | assumption | exact bR | apply bD | apply bA | apply bC | apply bW | omega | simp <;> omega))).next hb2);(try (have hg:=blk_next hg hb2;have hgc:=fun j=>cell_of_row _ _ j _ _ (0,0) hg;have hgf:=fun j=>frozen_of_row _ _ j _ _ hg;have hgl:=lt_of_block hg))))
    (all_goals (go_wp2_with fail;go_meet));(first | (exact ⟨_,rfl,Lib.hid (SN.out.alloc _ _)⟩) | skip);(all_goals exact ⟨_,rfl,Lib.hid (SE.out.overL [.int .i64 bx.w,.int .i64 bx.d,.int .i64 bx.h,.int .i64 bx.gram] 0)⟩)
   case rest =>
    obtain ⟨g8,rfl,SN2⟩:=hcut
    have SN:=SN2
    clear SN2 HCC
    have k8:=SN.out.box (.head _)
    have l8:=SN.out.boxlt (.head _)
    go_wp2
    go_roundw
    case rel=>exact ⟨j + 1,hlt,by go_num,by rw [HST.out,HG.out];(try simp only [wrapE]),Lib.hid SN.out.drop⟩
    case measure=>simp [intOf] <;> omega
  ·obtain rfl:j=L.length:=by omega
   rw [List.take_length]
   go_wp2
   go_ret
   exact ⟨by rw [HM.out];rfl,SN.out.low⟩
set_option maxRecDepth 100000 in
set_option maxHeartbeats 4000000 in
theorem sCovered_any (v vx:Value) (r:Request) (x:Plan) (k z:Int) (w:World) (h:RReq 16777216 w w.heap.size v r) (hx:RPlan 16777216 w w.heap.size vx x) (hL:x.bulk≤16777216):Calls Tryz.prog 27 #[v,vx,.int .i64 k,.int .i64 z] w fun e w'=>e=.returned (.int .i64 (coveredR r x k z))∧Below w.heap.size w w':=by
 have HR:=Lib.hid h
 have HX:=Lib.hid hx
 obtain ⟨A1,c1,A2,c2,A3,c3,rfl,_⟩:=h.opn
 obtain ⟨PA,ca,PB,cb,rfl,HPA,HPB,hla,hlb⟩:=hx.opn
 have hol:=onPal_le x k
 have hS:=((Sit.here w).alloc (cR r A1 c1 A2 c2 A3 c3) 41).alloc #[.slice PA x.cartons.length ca,.slice PB x.spots.length cb] 46
 simp only [World.size_alloc] at hS
 have SN:=Lib.hid hS
 obtain ⟨q,hq⟩:∃ q,feasible r x=q:=⟨_,rfl⟩
 have HQ:=Lib.hid hq
 have HM:=Lib.hid (show coveredR r x k z=if q=true then ((onPal x k).filter (atH r x z)).foldl (covStep r x) 0 else 0 by unfold coveredR atHeight;rw [hq])
 clear h hx hS hq
 go_enter Tryz.func27,Tryz.ntmps27
 have k0:=SN.out.box (.tail _ (.head _));have l0:=SN.out.boxlt (.tail _ (.head _));have k1:=SN.out.box (.head _);have l1:=SN.out.boxlt (.head _)
 go_wp2_with fail
 refine (sFeasible_any _ _ r x _ (HR.out.next SN.out.low) (HX.out.next SN.out.low) hL).mono ?_
 rintro e1 w1 ⟨rfl,hb1⟩
 rw [HQ.out]
 have SN:=Lib.hid (SN.out.next hb1)
 clear k0 l0 k1 l1 hb1
 cases q
 ·go_wp2
  go_ret
  exact ⟨by rw [HM.out];rfl,SN.out.low⟩
 have k1:=SN.out.box (.head _)
 have l1:=SN.out.boxlt (.head _)
 go_wp2_with fail
 refine (sOnPallet_any _ x k _ (HX.out.next SN.out.low)).mono ?_
 intro e2 w2 hm
 obtain ⟨v2,fk,rfl,hS⟩:=SN.out.gotInts hm
 obtain ⟨D,d,rfl,_⟩:=(hS.list (.head _)).form
 have SN:=Lib.hid hS
 clear k1 l1 hS hm
 go_wp2
 go_loopw [9,11] (fun n i wr=>∃ (j:Nat),j≤(onPal x k).length∧i=.int .i64 j∧n=.int .i64 ((((onPal x k).take j).filter (atH r x z)).foldl (covStep r x) 0)∧Hid (Sit w wr [fOF cI 3 1 w.heap.size (.slice D (onPal x k).length d) (onPal x k) fk,fBox (w.heap.size + 1) #[.slice PA x.cartons.length ca,.slice PB x.spots.length cb] 46,fBox w.heap.size (cR r A1 c1 A2 c2 A3 c3) 41])) (fun _ i _=>(onPal x k).length - (intOf i).toNat)
 case atStart=>exact ⟨0,Nat.zero_le _,rfl,rfl,SN⟩
 case round =>
  clear SN
  obtain ⟨j,hj,rfl,rfl,SN⟩:=hrel
  by_cases hlt:j < (onPal x k).length
  ·obtain ⟨i,hi⟩:∃ i,(onPal x k)[j]? = some i:=⟨_,List.getElem?_eq_getElem hlt⟩
   obtain ⟨m,rfl,hm1,hm2⟩:=onPal_in hi
   obtain ⟨gd,rfl⟩:=head_ptr (SN.out.list (.head _)) hi
   have HI:=Lib.hid hi
   obtain ⟨b,off,c,U,cu,rfl,hb,hc,HU,HC⟩:=HPA.out.one m hm1
   obtain ⟨b2,off2,s,rfl,hb2,hs,HC2⟩:=HPB.out.one m hm2
   obtain ⟨bx,hbx⟩:∃ bx,boxR r c=bx:=⟨_,rfl⟩
   have HBX:=Lib.hid hbx
   obtain ⟨f,hf⟩:∃ f,inB z s.z (wrap64 (wrap64 (s.z + bx.h) - 1))=f:=⟨_,rfl⟩
   have HF:=Lib.hid hf
   have HST:=Lib.hid (filter_step (p:=atH r x z) hi (show atH r x z (m:Int)=f by unfold atH;rw [spotAt_at hs,boxAt_nat hc,hbx,hf]))
   obtain ⟨G,hG⟩:∃ G,(((onPal x k).take j).filter (atH r x z)).foldl (covStep r x) 0=G:=⟨_,rfl⟩
   have HG:=Lib.hid (show (((onPal x k).take (j + 1)).filter (atH r x z)).foldl (covStep r x) 0=if f=true then wrap64 (G + wrap64 (bx.w * bx.d)) else G by
    rw [HST.out,List.foldl_append,hG]
    cases f
    ·rfl
    ·show covStep r x G (m:Int)=_
     unfold covStep;rw [boxAt_nat hc,hbx];rfl)
   rw [hG]
   have HCC:=Lib.hid (show ∀ X:World,Below wr.heap.size wr X→(cS10 (X) (w.heap.size) (r) (.slice A1 r.pairs.length c1) (.slice A2 r.types.length c2) (.slice A3 r.items.length c3))∧X.cell? ⟨w.heap.size + 1,0,none⟩=some (.slice (some ⟨b,off,none⟩) x.cartons.length ca)∧X.cell? ⟨gd,j,none⟩=some (.int .i64 (m:Int))∧(cC3 (X) (b) (off) (m) (c) (.slice U c.units.length cu)) from fun X hX=>by
    have hX:=SN.out.next hX
    have c0:=hX.box (.tail _ (.tail _ (.head _)))
    have hcu:=(hX.list (.head _)).cells (fun z=>rfl) HI.out 0 (.int .i64 (m:Int)) rfl
    rw [Nat.mul_one,Nat.add_zero] at hcu
    exact ⟨⟨c0 0,c0 1,c0 2,c0 3,c0 4,c0 5,c0 6,c0 7,c0 8,c0 9⟩,hX.box (.tail _ (.head _)) 0,hcu,HC.out X hX.low⟩)
   have hidx:(0:Int)≤(m:Int):=by omega
   clear hi hc hs hG hbx hf
   go_upto_region 8 with fail
   go_cut [12] (fun v8 X=>∃ g8,v8=.pointer (some ⟨g8,0,none⟩)∧Hid (Sit w X [fBox g8 #[.int .i64 bx.w,.int .i64 bx.d,.int .i64 bx.h,.int .i64 bx.gram] 75,fOF cI 3 1 w.heap.size (.slice (some ⟨gd,0,none⟩) (onPal x k).length d) (onPal x k) fk,fBox (w.heap.size + 1) #[.slice (some ⟨b,off,none⟩) x.cartons.length ca,.slice (some ⟨b2,off2,none⟩) x.spots.length cb] 46,fBox w.heap.size (cR r A1 c1 A2 c2 A3 c3) 41]))
   case first =>
    go_region_held3 (fun W'=>((cS10 (W') (w.heap.size) (r) (.slice A1 r.pairs.length c1) (.slice A2 r.types.length c2) (.slice A3 r.items.length c3)))∧W'.cell? ⟨w.heap.size + 1,0,none⟩=some (.slice (some ⟨b,off,none⟩) x.cartons.length ca)∧W'.cell? ⟨gd,j,none⟩=some (.int .i64 (m:Int))∧(cC3 (W') (b) (off) (m) (c) (.slice U c.units.length cu))) (first | (refine HCC.out _ ?_;(repeat' with_reducible first | assumption | exact bR | apply bD | apply bA | apply bC | apply bW | omega | simp <;> omega);done) | go_keep) (first | (go_at_call 91;(try (first | refine calls_new ?_ | refine calls_newd ?_);intro hg);refine (sBoxOf_any _ _ r c _ (HR.out.next (SN.out.next (by (repeat' with_reducible first | assumption | exact bR | apply bD | apply bA | apply bC | apply bW | omega | simp <;> omega))).low) (HU.out.next (flat_mono _) (SN.out.next (by (repeat' with_reducible first | assumption | exact bR | apply bD | apply bA | apply bC | apply bW | omega | simp <;> omega))).low)).mono ?_;rintro e w2 ⟨rfl,hb2⟩;rw [HBX.out];have hn2:=bstep (a:=wr) (by (repeat' with_reducible first | assumption | exact bR | apply bD | apply bA | apply bC | apply bW | omega | simp <;> omega)) hb2;have hz2:=hn2.size;have hj2:=hb2.size;(try simp only [World.size_alloc,World.size_drew] at hj2);have SE:=Lib.hid ((SN.out.drew.alloc #[.int .i64 0,.int .i64 0,.int .i64 0,.int .i64 0] 75));(first | (have SE:=Lib.hid (SE.out.next hb2)) | skip);have SN:=Lib.hid ((SN.out.next (by (repeat' with_reducible first | assumption | exact bR | apply bD | apply bA | apply bC | apply bW | omega | simp <;> omega))).next hb2);(try (have hg:=blk_next hg hb2;have hgc:=fun j=>cell_of_row _ _ j _ _ (0,0) hg;have hgf:=fun j=>frozen_of_row _ _ j _ _ hg;have hgl:=lt_of_block hg))))
    (all_goals (go_wp2_with fail;go_meet));(first | (exact ⟨_,rfl,Lib.hid (SN.out.alloc _ _)⟩) | skip);(all_goals exact ⟨_,rfl,Lib.hid (SE.out.overL [.int .i64 bx.w,.int .i64 bx.d,.int .i64 bx.h,.int .i64 bx.gram] 0)⟩)
   case rest =>
    obtain ⟨g8,rfl,SN2⟩:=hcut
    have SN:=SN2
    clear SN2 HCC
    have k8:=SN.out.box (.head _)
    have l8:=SN.out.boxlt (.head _)
    have hcu:=(SN.out.list (.tail _ (.head _))).cells (fun z=>rfl) HI.out 0 (.int .i64 (m:Int)) rfl
    rw [Nat.mul_one,Nat.add_zero] at hcu
    have k82:wc.cell? ⟨g8,2,none⟩=some (.int .i64 bx.h):=k8 2
    have k11:wc.cell? ⟨w.heap.size + 1,1,none⟩=some (.slice (some ⟨b2,off2,none⟩) x.spots.length cb):=SN.out.box (.tail _ (.tail _ (.head _))) 1
    have hsc:=HC2.out wc SN.out.low
    go_wp2
    refine regu (S:=(fun W'=>W'.cell? ⟨gd,j,none⟩=some (.int .i64 (m:Int))∧W'.cell? ⟨g8,2,none⟩=some (.int .i64 bx.h)∧W'.cell? ⟨w.heap.size + 1,1,none⟩=some (.slice (some ⟨b2,off2,none⟩) x.spots.length cb)∧cS4 (W') (b2) (off2) (m) (s))) (by kernel_rfl) (fun _ _ _ _ _=>id) ?_ fun hHeld=>?_
    ·(first | exact ⟨hcu,k82,k11,hsc⟩ | go_keep)
    refine tku (b:=?_) [0,1,2,3,4,5,6,7,8,9,10,11,12,13,14,15,16,17,18,19,20,21,22] (by kernel_rfl) hHeld ?_ ?_
    rotate_left
    ·repeat first
     |exact .nil
     |refine .yes (v:=?_) rfl (by rfl) ?_ ?_
      rotate_left
      ·intro w9 hSw;(try dsimp only at hSw);go_simp;(try with_reducible rfl)
      (try simp only [aP,aZ,aS,aG,aH,aI])
    refine lsu 23 rfl (by kernel_rfl) fun K hK=>?_
    go_simp
    ((go_at_call 104;(try simp only [wrapE]);refine (l1In_any _ _ _ _).mono ?_;rintro e w' ⟨rfl,rfl⟩;rw [HF.out]))
    refine hK.out _ _ ?_
    clear hK K
    (try simp only [aP,aZ,aS,aG,aH,aI])
    skip
    have SN:=Lib.hid SN.out.drew
    have k8:∀ j,wc.drew.cell? ⟨g8,j,none⟩=_:=k8
    have l8:g8 < wc.drew.heap.size:=l8
    clear hcu k82 k11 hsc
    cases f
    all_goals go_wp2
    all_goals go_roundw
    all_goals first | (case rel=>exact ⟨j + 1,hlt,by go_num,by rw [HG.out];(try simp only [wrapE]);rfl,Lib.hid SN.out.drop⟩) | (case measure=>simp [intOf] <;> omega)
  ·obtain rfl:j=(onPal x k).length:=by omega
   rw [List.take_length]
   go_wp2
   go_ret
   exact ⟨by rw [HM.out];rfl,SN.out.low⟩
end Go.Proofs.YtioijfplbgpjpaaGreat
namespace Go.Proofs.YtioijfplbgpjpaaGreat
set_option linter.unusedVariables false
set_option linter.unusedSimpArgs false
set_option maxRecDepth 100000
open Go.RowKit Go.WideShapes Go.ChangeShapes Go.ChangeAt Go.Deep
end Go.Proofs.YtioijfplbgpjpaaGreat
namespace Go.Proofs.YtioijfplbgpjpaaGreat
set_option linter.unusedVariables false
set_option linter.unusedSimpArgs false
set_option maxRecDepth 100000
open Go.RowKit Go.WideShapes Go.ChangeShapes Go.ChangeAt Go.Deep
end Go.Proofs.YtioijfplbgpjpaaGreat
namespace Go.Proofs.YtioijfplbgpjpaaGreat
set_option linter.unusedVariables false
set_option linter.unusedSimpArgs false
set_option maxRecDepth 100000
open Go.RowKit
def Spot.down (s:Spot):Spot:={ s with z:=s.z - 1 }
def fall (free:Spot→Bool):Nat→Spot→Spot
 |0,s=>s
 |f + 1,s=>if (decide (0 < s.z) && free s.down)=true then fall free f s.down else s
def Spot.under (s t:Spot):Prop:=s.pallet=t.pallet∧s.x=t.x∧s.y=t.y∧s.z≤t.z∧(0≤t.z→0≤s.z)
section
variable {r:Request} {x y:Plan}
end
end Go.Proofs.YtioijfplbgpjpaaGreat
namespace Go.Proofs.YtioijfplbgpjpaaGreat
set_option linter.unusedVariables false
set_option linter.unusedSimpArgs false
set_option maxRecDepth 100000
open Go.RowKit Go.WideShapes Go.ChangeShapes Go.ChangeAt
section
variable {w W:World} {l:List Fact} {B:Nat} {v:Value} {x:Plan} {fp:List Nat}
end
end Go.Proofs.YtioijfplbgpjpaaGreat
namespace Go.Proofs.YtioijfplbgpjpaaGreat
set_option linter.unusedVariables false
set_option linter.unusedSimpArgs false
set_option maxRecDepth 100000
open Go.RowKit Go.WideShapes Go.ChangeShapes Go.ChangeAt Go.Deep
end Go.Proofs.YtioijfplbgpjpaaGreat
namespace Go.Proofs.YtioijfplbgpjpaaGreat
set_option linter.unusedVariables false
set_option linter.unusedSimpArgs false
set_option maxRecDepth 100000
open Go.RowKit Go.WideShapes Go.ChangeShapes Go.ChangeAt Go.Deep
section
variable {w W:World} {l:List Fact} {q q1 q2 q3 q4 q5 q6 q7:Fact}
theorem Sit.up6 (h:Sit w W (q1::q2::q3::q4::q5::q6::q::l)):Sit w W (q::q1::q2::q3::q4::q5::q6::l):=h.perm (List.perm_middle (l₁:=[q1,q2,q3,q4,q5,q6]))
theorem Sit.up7 (h:Sit w W (q1::q2::q3::q4::q5::q6::q7::q::l)):Sit w W (q::q1::q2::q3::q4::q5::q6::q7::l):=h.perm (List.perm_middle (l₁:=[q1,q2,q3,q4,q5,q6,q7]))
variable {L:List Fact} {vc:Value} {x:Plan} {fp:List Nat} {g o n c i:Nat} {s:Spot}
theorem Sit.spotCell (h:Sit w W L) (hm:fRp vc (.slice (some ⟨g,o,none⟩) n c) x fp∈L) (hx:x.spots[i]? = some s) (j:Nat) (u:Value) (hu:s.cells[j]? = some u):W.cell? ⟨g,o + i * 4 + j,none⟩=some u:=by
 obtain ⟨zs,f1,f2,h0,hd,h1,h2,h3,⟨A,c',hv,hc,hr⟩,h5⟩:=h.on _ hm
 obtain ⟨b',o',e4,hb,hel⟩:=hr (by have:=(List.getElem?_eq_some_iff.1 hx).1;omega)
 injection hv with e1 e2 e3
 rw [← e1] at e4
 injection e4 with e5
 injection e5 with e6 e7
 subst e6 e7
 exact hel i s hx j u hu
theorem Sit.spotFree (h:Sit w W L) (hm:fRp vc (.slice (some ⟨g,o,none⟩) n c) x fp∈L) (hn:0 < x.spots.length) (j:Nat):W.frozen? ⟨g,j,none⟩=false:=by
 obtain ⟨zs,f1,f2,h0,hd,h1,h2,h3,⟨A,c',hv,hc,hr⟩,h5⟩:=h.on _ hm
 obtain ⟨b',o',e4,hb,hel⟩:=hr hn
 injection hv with e1 e2 e3
 rw [← e1] at e4
 injection e4 with e5
 injection e5 with e6 e7
 subst e6
 obtain ⟨cs,t,hcs⟩:=h5 g hb
 exact frozen_of_row _ _ j _ _ hcs
end
set_option maxRecDepth 100000 in
set_option maxHeartbeats 40000000 in
theorem l21Raised_any (v:Value) (xs:List Int) (w W:World) (L:List Fact) (hS:Sit w W L) (hx:RBytes w w.heap.size v xs):Calls Tryz.prog 132 #[v] W fun e w'=>∃ u r fp vc vs x fq,e=.returned (.tuple #[u,.agg #[vc,vs]])∧Sit w w' (fRq u r fp::fRp vc vs x fq::L)∧r.bulk≤80∧PlanSmall x:=by
 have HB:=Lib.hid hx
 have SN:=Lib.hid ((hS.alloc cZ 41).alloc #[.slice none 0 0,.slice none 0 0] 46)
 simp only [World.size_alloc] at SN
 clear hS hx
 go_enter Tryz.func132,Tryz.ntmps132
 go_upto_region 1 with fail
 generalize hW1:(W.alloc (.cells cZ 41)).alloc (.cells #[.slice none 0 0,.slice none 0 0] 46)=W1 at SN ⊢
 clear hW1
 go_wp2_with fail
 refine (l13Draw_any v xs _ _ _ SN.out HB.out).mono ?_
 rintro e w2 ⟨u,r,fp,vc,vs,x,fq,rfl,SN1,hbk,hsx⟩
 obtain ⟨vp,vt,vi,rfl,⟨A1,c1,rfl,_⟩,⟨A2,c2,rfl,_⟩,⟨A3,c3,rfl,_⟩⟩:=SN1.on _ (.head _)
 obtain ⟨zs2,hz2,⟨A7,c7,rfl,_⟩,_,⟨A8,c8,rfl,hc8,hel8⟩⟩:=RpOn.open (SN1.on _ (.tail _ (.head _)))
 have hA8:0 < x.spots.length→∃ g o,A8=some ⟨g,o,none⟩:=fun hn=>by obtain ⟨b,o,e,_⟩:=hel8 hn;exact ⟨b,o,e⟩
 have HZ2:=Lib.hid hz2
 have hbt:=SN1.boxlt (.tail _ (.tail _ (.head _)))
 clear hel8 hz2
 have SQ:=Lib.hid ((SN1.alloc (cR r A1 c1 A2 c2 A3 c3) 41).alloc #[.slice A7 zs2.length c7,.slice A8 x.spots.length c8] 46)
 simp only [World.size_alloc] at SQ
 obtain ⟨b4,hb4⟩:∃ b,w2.heap.size=b:=⟨_,rfl⟩
 rw [hb4] at SQ hbt
 clear SN SN1
 have SN:=SQ
 clear SQ
 go_upto_region 2 with fail
 generalize (w2.alloc (.cells (cR r A1 c1 A2 c2 A3 c3) 41)).alloc (.cells #[.slice A7 zs2.length c7,.slice A8 x.spots.length c8] 46)=W3 at SN ⊢
 clear hb4
 have hn1 : ¬ (b4=W.heap.size):=(by omega);have hn2 : ¬ (b4=W.heap.size + 1):=(by omega);have hn3 : ¬ (b4 + 1=W.heap.size):=(by omega);have hn4 : ¬ (b4 + 1=W.heap.size + 1):=(by omega);have hn5 : ¬ (W.heap.size=b4):=(by omega);have hn6 : ¬ (W.heap.size + 1=b4):=(by omega);have hn7 : ¬ (W.heap.size=b4 + 1):=(by omega);have hn8 : ¬ (W.heap.size + 1=b4 + 1):=(by omega);have hn9 : ¬ (b4=b4 + 1):=(by omega);have hn10 : ¬ (b4 + 1=b4):=(by omega)
 go_wp2_with fail
 refine (new_sit SN.out HB.out).mono ?_
 rintro e1 w6 ⟨g,rfl,SN1⟩
 have SN2:=Lib.hid SN1
 clear SN SN1
 have SN:=SN2
 clear SN2
 have k5:=SN.out.box (g:=b4 + 1) (cs:=#[.slice A7 zs2.length c7,.slice A8 x.spots.length c8]) (t:=46) mq
 go_upto_region 3 with fail
 go_cut [31] (fun v31 X=>∃ b:Bool,v31=.bool b∧(b=true→0 < x.spots.length)∧Hid (Sit w X (fCur g v xs.length::fBox (b4 + 1) #[.slice A7 zs2.length c7,.slice A8 x.spots.length c8] 46::fBox b4 (cR r A1 c1 A2 c2 A3 c3) 41::fRq (.agg (cR r A1 c1 A2 c2 A3 c3)) r fp::fRp (.slice A7 zs2.length c7) (.slice A8 x.spots.length c8) x fq::fBox (W.heap.size + 1) #[.slice none 0 0,.slice none 0 0] 46::fBox W.heap.size cZ 41::L)))
 case first =>
  by_cases h0:0 < x.spots.length
  ·have h0i:(0:Int) < (x.spots.length:Int):=by omega
   by_cases hl:x.spots.length=zs2.length
   ·have hq:((x.spots.length:Int) == (zs2.length:Int))=true:=beq_iff_eq.2 (by omega)
    have hq2:decide ((x.spots.length:Int)=(zs2.length:Int))=true:=decide_eq_true (by omega)
    have HL:=Lib.hid hl
    clear hl
    go_wp2_with fail
    refine (once_sit SN.out HB.out (.head _) _ (by first | decide | omega)).mono ?_
    rintro e w7 ⟨o1,rfl,SN1⟩
    have SN2:=Lib.hid SN1
    go_wp2_with fail
    go_meet
    exact ⟨o1,rfl,fun _=>h0,SN2⟩
   ·have hq:((x.spots.length:Int) == (zs2.length:Int))=false:=beq_eq_false_iff_ne.2 (by omega)
    have hq2:decide ((x.spots.length:Int)=(zs2.length:Int))=false:=decide_eq_false (by omega)
    go_wp2_with fail
    go_meet
    exact ⟨false,rfl,nofun,SN⟩
  ·have h0i : ¬ ((0:Int) < (x.spots.length:Int)):=by omega
   go_wp2_with fail
   go_meet
   exact ⟨false,rfl,nofun,SN⟩
 case rest =>
  obtain ⟨b,rfl,hbt2,SN2⟩:=hcut
  clear SN k5
  have SN:=SN2
  clear SN2
  cases b
  ·have k4:=SN.out.box (g:=b4) (cs:=(cR r A1 c1 A2 c2 A3 c3)) (t:=41) mq;have k5:=SN.out.box (g:=b4 + 1) (cs:=#[.slice A7 zs2.length c7,.slice A8 x.spots.length c8]) (t:=46) mq;have k2:=SN.out.box (g:=W.heap.size) (cs:=cZ) (t:=41) mq;have f2:=SN.out.free (g:=W.heap.size) (cs:=cZ) (t:=41) mq;have k3:=SN.out.box (g:=W.heap.size + 1) (cs:=#[.slice none 0 0,.slice none 0 0]) (t:=46) mq;have f3:=SN.out.free (g:=W.heap.size + 1) (cs:=#[.slice none 0 0,.slice none 0 0]) (t:=46) mq;have m40:=k4 0;have m41:=k4 1;have m42:=k4 2;have m43:=k4 3;have m44:=k4 4;have m45:=k4 5;have m46:=k4 6;have m47:=k4 7;have m48:=k4 8;have m49:=k4 9;have m50:=k5 0;have m51:=k5 1;simp at m40 m41 m42 m43 m44 m45 m46 m47 m48 m49 m50 m51;clear k4 k5
   go_wp2_with fail
   refine regu (S:=(fun W'=>(cS10 (W') (b4) (r) (.slice A1 r.pairs.length c1) (.slice A2 r.types.length c2) (.slice A3 r.items.length c3))∧W'.cell? ⟨b4 + 1,0,none⟩=some (.slice A7 zs2.length c7)∧W'.cell? ⟨b4 + 1,1,none⟩=some (.slice A8 x.spots.length c8))) (by kernel_rfl) (fun _ _ _ _ _=>id) ?_ fun hHeld=>?_
   ·go_keep
   refine tku (b:=?_) [0,1] (by kernel_rfl) hHeld ?_ ?_
   rotate_left
   ·repeat first
    |exact .nil
    |refine .yes (v:=?_) rfl (by rfl) ?_ ?_
     rotate_left
     ·intro w9 hSw;(try dsimp only at hSw);go_simp;(try with_reducible rfl)
     (try simp only [aP,aZ,aS,aG,aH,aI])
   refine onu 2 rfl (by kernel_rfl) fun K hK=>?_
   go_simp
   refine hK.out _ _ ?_ (fun hHeld=>?_)
   ·go_keep
   clear hK K
   (try simp only [aP,aZ,aS,aG,aH,aI])
   refine lsu 3 rfl (by kernel_rfl) fun K hK=>?_
   go_simp
   refine hK.out _ _ ?_
   clear hK K
   (try simp only [aP,aZ,aS,aG,aH,aI])
   go_wp2_with fail
   refine bodyPost_ret (v:=.tuple #[.agg (cR r A1 c1 A2 c2 A3 c3),.agg #[.slice A7 zs2.length c7,.slice A8 x.spots.length c8]]) (by simp [results,Tryz.results132,go_sem,k2,f2,k3,f3]) rfl ?_
   exact ⟨_,r,fp,_,_,x,_,rfl,(((((SN.out.up6).up6.rot2).sub (.cons_cons _ (.cons_cons _ (.cons _ (.cons _ (.cons _ (List.Sublist.refl _))))))).overL [.int .i64 r.way,.int .i64 r.pallet.w,.int .i64 r.pallet.d,.int .i64 r.pallet.h,.int .i64 r.pallet.gram,.int .i64 r.classes,.slice A1 r.pairs.length c1,.slice A2 r.types.length c2,.int .i64 r.master,.slice A3 r.items.length c3] 0).rot2.overL [.slice A7 zs2.length c7,.slice A8 x.spots.length c8] 0).drop.drop.drew,hbk,hsx⟩
  ·have h0:=hbt2 rfl
   obtain ⟨gs,off,rfl⟩:=hA8 h0
   obtain ⟨m,hm⟩:∃ m,m=x.spots.length - 1:=⟨_,rfl⟩
   have hmlt:m < x.spots.length:=by omega
   have hmi:(m:Int) < (x.spots.length:Int):=by omega
   obtain ⟨s,hs⟩:∃ s,x.spots[m]? = some s:=⟨_,List.getElem?_eq_getElem hmlt⟩
   have HS:=Lib.hid hs
   have hs100:=hsx.spots
   have hw1:wrap64 ((x.spots.length:Int) - 1)=(m:Int):=by unfold wrap64;omega
   have hw2:IntKind.i64.wrap ((x.spots.length:Int) - 1)=(m:Int):=by rw [wrapE];exact hw1
   have k5:=SN.out.box (g:=b4 + 1) (cs:=#[.slice A7 zs2.length c7,.slice (some ⟨gs,off,none⟩) x.spots.length c8]) (t:=46) mq
   have k51:=k5 1
   simp at k51
   have hcz:=SN.out.spotCell (vc:=.slice A7 zs2.length c7) (x:=x) (fp:=fq) (by repeat first | with_reducible exact List.mem_cons_self | with_reducible exact .head _ | refine .tail _ ?_) HS.out 3 _ rfl
   have hfz:=SN.out.spotFree (vc:=.slice A7 zs2.length c7) (x:=x) (fp:=fq) (g:=gs) (o:=off) (n:=x.spots.length) (c:=c8) (by repeat first | with_reducible exact List.mem_cons_self | with_reducible exact .head _ | refine .tail _ ?_) h0
   clear hs hm
   go_wp2_with fail
   refine regu (S:=(fun W'=>W'.cell? ⟨b4 + 1,1,none⟩=some (.slice (some ⟨gs,off,none⟩) x.spots.length c8)∧W'.cell? ⟨gs,off + m * 4 + 3,none⟩=some (.int .i64 s.z))) (by kernel_rfl) (fun _ _ _ _ _=>id) ?_ fun hHeld=>?_
   ·(first | exact ⟨k51,hcz⟩ | go_keep)
   refine tku (b:=?_) [0,1,2,3,4,5,6,7,8,9] (by kernel_rfl) hHeld ?_ ?_
   rotate_left
   ·repeat first
    |exact .nil
    |refine .yes (v:=?_) rfl (by rfl) ?_ ?_
     rotate_left
     ·intro w9 hSw;(try dsimp only at hSw);go_simp;(try with_reducible rfl)
     (try simp only [aP,aZ,aS,aG,aH,aI])
   refine onu 10 rfl (by kernel_rfl) fun K hK=>?_
   go_simp
   ((go_at_call 133;refine Sit.cs SN.out fun SN0=>?_;(try simp only [World.size_alloc,World.size_drew] at SN0);refine (below_sit SN0 HB.out (.head _) _ (by first | decide | omega)).mono ?_;rintro e w7 ⟨y,rfl,hy,SN1,T1⟩;clear k5 k51 hcz hfz;have SN2:=Lib.hid SN1;clear SN SN0 SN1 T1;have SN:=SN2;clear SN2;have k5:=SN.out.box (g:=b4 + 1) (cs:=#[.slice A7 zs2.length c7,.slice (some ⟨gs,off,none⟩) x.spots.length c8]) (t:=46) mq;have k51:=k5 1;simp at k51;have hcz:=SN.out.spotCell (vc:=.slice A7 zs2.length c7) (x:=x) (fp:=fq) (by repeat first | with_reducible exact List.mem_cons_self | with_reducible exact .head _ | refine .tail _ ?_) HS.out 3 _ rfl;have hfz:=SN.out.spotFree (vc:=.slice A7 zs2.length c7) (x:=x) (fp:=fq) (g:=gs) (o:=off) (n:=x.spots.length) (c:=c8) (by repeat first | with_reducible exact List.mem_cons_self | with_reducible exact .head _ | refine .tail _ ?_) h0))
   refine hK.out _ _ ?_ (fun hHeld=>?_)
   ·(first | exact ⟨k51,hcz⟩ | go_keep)
   clear hK K
   (try simp only [aP,aZ,aS,aG,aH,aI])
   refine tku (b:=?_) [11,12,13] (by kernel_rfl) hHeld ?_ ?_
   rotate_left
   ·repeat first
    |exact .nil
    |refine .yes (v:=?_) rfl (by rfl) ?_ ?_
     rotate_left
     ·intro w9 hSw;(try dsimp only at hSw);go_simp;(try with_reducible rfl)
     (try simp only [aP,aZ,aS,aG,aH,aI])
   refine lsu 14 rfl (by kernel_rfl) fun K hK=>?_
   go_simp
   refine hK.out _ _ ?_
   clear hK K
   (try simp only [aP,aZ,aS,aG,aH,aI])
   have SQ:=Lib.hid ((SN.out.up4.putS (j:=3) (s':=⟨s.pallet,s.x,s.y,IntKind.i64.wrap (s.z + y)⟩) (u:=.int .i64 (IntKind.i64.wrap (s.z + y))) HS.out (by decide) rfl).down4)
   generalize w7.setCell ⟨gs,off + m * 4 + 3,none⟩ (.int .i64 (IntKind.i64.wrap (s.z + y)))=W8 at SQ ⊢
   clear SN k5 k51 hcz hfz
   have SN:=SQ
   clear SQ
   have k4:=SN.out.box (g:=b4) (cs:=(cR r A1 c1 A2 c2 A3 c3)) (t:=41) mq;have k5:=SN.out.box (g:=b4 + 1) (cs:=#[.slice A7 zs2.length c7,.slice (some ⟨gs,off,none⟩) x.spots.length c8]) (t:=46) mq;have k2:=SN.out.box (g:=W.heap.size) (cs:=cZ) (t:=41) mq;have f2:=SN.out.free (g:=W.heap.size) (cs:=cZ) (t:=41) mq;have k3:=SN.out.box (g:=W.heap.size + 1) (cs:=#[.slice none 0 0,.slice none 0 0]) (t:=46) mq;have f3:=SN.out.free (g:=W.heap.size + 1) (cs:=#[.slice none 0 0,.slice none 0 0]) (t:=46) mq;have m40:=k4 0;have m41:=k4 1;have m42:=k4 2;have m43:=k4 3;have m44:=k4 4;have m45:=k4 5;have m46:=k4 6;have m47:=k4 7;have m48:=k4 8;have m49:=k4 9;have m50:=k5 0;have m51:=k5 1;simp at m40 m41 m42 m43 m44 m45 m46 m47 m48 m49 m50 m51;clear k4 k5
   go_wp2_with fail
   refine regu (S:=(fun W'=>(cS10 (W') (b4) (r) (.slice A1 r.pairs.length c1) (.slice A2 r.types.length c2) (.slice A3 r.items.length c3))∧W'.cell? ⟨b4 + 1,0,none⟩=some (.slice A7 zs2.length c7)∧W'.cell? ⟨b4 + 1,1,none⟩=some (.slice (some ⟨gs,off,none⟩) x.spots.length c8))) (by kernel_rfl) (fun _ _ _ _ _=>id) ?_ fun hHeld=>?_
   ·go_keep
   refine tku (b:=?_) [0,1] (by kernel_rfl) hHeld ?_ ?_
   rotate_left
   ·repeat first
    |exact .nil
    |refine .yes (v:=?_) rfl (by rfl) ?_ ?_
     rotate_left
     ·intro w9 hSw;(try dsimp only at hSw);go_simp;(try with_reducible rfl)
     (try simp only [aP,aZ,aS,aG,aH,aI])
   refine onu 2 rfl (by kernel_rfl) fun K hK=>?_
   go_simp
   refine hK.out _ _ ?_ (fun hHeld=>?_)
   ·go_keep
   clear hK K
   (try simp only [aP,aZ,aS,aG,aH,aI])
   refine lsu 3 rfl (by kernel_rfl) fun K hK=>?_
   go_simp
   refine hK.out _ _ ?_
   clear hK K
   (try simp only [aP,aZ,aS,aG,aH,aI])
   go_wp2_with fail
   refine bodyPost_ret (v:=.tuple #[.agg (cR r A1 c1 A2 c2 A3 c3),.agg #[.slice A7 zs2.length c7,.slice (some ⟨gs,off,none⟩) x.spots.length c8]]) (by simp [results,Tryz.results132,go_sem,k2,f2,k3,f3]) rfl ?_
   exact ⟨_,r,fp,_,_,_,_,rfl,(((((SN.out.up6).up6.rot2).sub (.cons_cons _ (.cons_cons _ (.cons _ (.cons _ (.cons _ (List.Sublist.refl _))))))).overL [.int .i64 r.way,.int .i64 r.pallet.w,.int .i64 r.pallet.d,.int .i64 r.pallet.h,.int .i64 r.pallet.gram,.int .i64 r.classes,.slice A1 r.pairs.length c1,.slice A2 r.types.length c2,.int .i64 r.master,.slice A3 r.items.length c3] 0).rot2.overL [.slice A7 zs2.length c7,.slice (some ⟨gs,off,none⟩) x.spots.length c8] 0).drop.drop.drew,hbk,hsx.setS m ⟨s.pallet,s.x,s.y,IntKind.i64.wrap (s.z + y)⟩⟩
end Go.Proofs.YtioijfplbgpjpaaGreat
namespace Go.Proofs.YtioijfplbgpjpaaGreat
set_option linter.unusedVariables false
set_option linter.unusedSimpArgs false
set_option maxRecDepth 100000
open Go.RowKit Go.WideShapes Go.ChangeShapes Go.ChangeAt Go.Deep
set_option maxRecDepth 100000 in
set_option maxHeartbeats 40000000 in
theorem l24Four_any (v:Value) (xs:List Int) (w W:World) (L:List Fact) (hS:Sit w W L) (hx:RBytes w w.heap.size v xs):Calls Tryz.prog 140 #[v] W fun e w'=>∃ (u:Value) (r:Request) (fp:List Nat) (vc vs:Value) (x:Plan) (fq:List Nat) (n0 n1:Int),e=.returned (.tuple #[u,.agg #[vc,vs],.int .i64 n0,.int .i64 n1])∧Sit w w' (fRq u r fp::fRp vc vs x fq::L)∧r.bulk≤80∧PlanSmall x:=by
 have HB:=Lib.hid hx
 have SN:=Lib.hid ((hS.alloc cZ 41).alloc #[.slice none 0 0,.slice none 0 0] 46)
 simp only [World.size_alloc] at SN
 clear hS hx
 go_enter Tryz.func140,Tryz.ntmps140
 go_upto_region 1 with fail
 generalize hW1:(W.alloc (.cells cZ 41)).alloc (.cells #[.slice none 0 0,.slice none 0 0] 46)=W1 at SN ⊢
 clear hW1
 go_wp2_with fail
 refine (l21Raised_any v xs _ _ _ SN.out HB.out).mono ?_
 rintro e w2 ⟨u,r,fp,vc,vs,x,fq,rfl,SN1,hbk,hsx⟩
 obtain ⟨vp,vt,vi,rfl,⟨A1,c1,rfl,_⟩,⟨A2,c2,rfl,_⟩,⟨A3,c3,rfl,_⟩⟩:=SN1.on _ (.head _)
 obtain ⟨zs2,hz2,⟨A7,c7,rfl,_⟩,_,⟨A8,c8,rfl,_⟩⟩:=RpOn.open (SN1.on _ (.tail _ (.head _)))
 have HZ2:=Lib.hid hz2
 have hbt:=SN1.boxlt (.tail _ (.tail _ (.head _)))
 clear hz2
 have SQ:=Lib.hid ((SN1.alloc (cR r A1 c1 A2 c2 A3 c3) 41).alloc #[.slice A7 zs2.length c7,.slice A8 x.spots.length c8] 46)
 simp only [World.size_alloc] at SQ
 obtain ⟨b4,hb4⟩:∃ b,w2.heap.size=b:=⟨_,rfl⟩
 rw [hb4] at SQ hbt
 clear SN SN1
 have SN:=SQ
 clear SQ
 go_upto_region 2 with fail
 generalize (w2.alloc (.cells (cR r A1 c1 A2 c2 A3 c3) 41)).alloc (.cells #[.slice A7 zs2.length c7,.slice A8 x.spots.length c8] 46)=W3 at SN ⊢
 clear hb4
 have hn1 : ¬ (b4=W.heap.size):=(by omega);have hn2 : ¬ (b4=W.heap.size + 1):=(by omega);have hn3 : ¬ (b4 + 1=W.heap.size):=(by omega);have hn4 : ¬ (b4 + 1=W.heap.size + 1):=(by omega);have hn5 : ¬ (W.heap.size=b4):=(by omega);have hn6 : ¬ (W.heap.size + 1=b4):=(by omega);have hn7 : ¬ (W.heap.size=b4 + 1):=(by omega);have hn8 : ¬ (W.heap.size + 1=b4 + 1):=(by omega);have hn9 : ¬ (b4=b4 + 1):=(by omega);have hn10 : ¬ (b4 + 1=b4):=(by omega)
 go_wp2_with fail
 refine (new_sit SN.out HB.out).mono ?_
 rintro e1 w6 ⟨g,rfl,SN1⟩
 have SN2:=Lib.hid SN1
 clear SN SN1
 have SN:=SN2
 clear SN2
 have k4:=SN.out.box (g:=b4) (cs:=(cR r A1 c1 A2 c2 A3 c3)) (t:=41) mq;have k5:=SN.out.box (g:=b4 + 1) (cs:=#[.slice A7 zs2.length c7,.slice A8 x.spots.length c8]) (t:=46) mq;have k2:=SN.out.box (g:=W.heap.size) (cs:=cZ) (t:=41) mq;have f2:=SN.out.free (g:=W.heap.size) (cs:=cZ) (t:=41) mq;have k3:=SN.out.box (g:=W.heap.size + 1) (cs:=#[.slice none 0 0,.slice none 0 0]) (t:=46) mq;have f3:=SN.out.free (g:=W.heap.size + 1) (cs:=#[.slice none 0 0,.slice none 0 0]) (t:=46) mq;have m40:=k4 0;have m41:=k4 1;have m42:=k4 2;have m43:=k4 3;have m44:=k4 4;have m45:=k4 5;have m46:=k4 6;have m47:=k4 7;have m48:=k4 8;have m49:=k4 9;have m50:=k5 0;have m51:=k5 1;simp at m40 m41 m42 m43 m44 m45 m46 m47 m48 m49 m50 m51;clear k4 k5
 go_wp2_with fail
 refine regu (S:=(fun W'=>(cS10 (W') (b4) (r) (.slice A1 r.pairs.length c1) (.slice A2 r.types.length c2) (.slice A3 r.items.length c3))∧W'.cell? ⟨b4 + 1,0,none⟩=some (.slice A7 zs2.length c7)∧W'.cell? ⟨b4 + 1,1,none⟩=some (.slice A8 x.spots.length c8))) (by kernel_rfl) (fun _ _ _ _ _=>id) ?_ fun hHeld=>?_
 ·go_keep
 refine tku (b:=?_) [0,1,2,5] (by kernel_rfl) hHeld ?_ ?_
 rotate_left
 ·repeat first
  |exact .nil
  |refine .yes (v:=?_) rfl (by rfl) ?_ ?_
   rotate_left
   ·intro w9 hSw;(try dsimp only at hSw);go_simp;(try with_reducible rfl)
   (try simp only [aP,aZ,aS,aG,aH,aI])
 refine smu [3,6] (by kernel_rfl) ?_
 refine .cons rfl (by kernel_rfl) (fun K hK=>?_) ?_
 ·go_simp
  ((go_at_call 133;refine Sit.cs SN.out fun SN0=>?_;(try simp only [World.size_alloc,World.size_drew] at SN0);refine (below_sit SN0 HB.out (by repeat first | with_reducible exact List.mem_cons_self | with_reducible exact .head _ | refine .tail _ ?_) _ (by omega)).mono ?_;rintro e w1 ⟨y,rfl,hy,SN1,T1⟩;clear hy;clear m40 m41 m42 m43 m44 m45 m46 m47 m48 m49 m50 m51 k2 f2 k3 f3;have SN2:=Lib.hid SN1;clear SN SN0 SN1 T1;have SN:=SN2;clear SN2;have k4:=SN.out.box (g:=b4) (cs:=(cR r A1 c1 A2 c2 A3 c3)) (t:=41) mq;have k5:=SN.out.box (g:=b4 + 1) (cs:=#[.slice A7 zs2.length c7,.slice A8 x.spots.length c8]) (t:=46) mq;have k2:=SN.out.box (g:=W.heap.size) (cs:=cZ) (t:=41) mq;have f2:=SN.out.free (g:=W.heap.size) (cs:=cZ) (t:=41) mq;have k3:=SN.out.box (g:=W.heap.size + 1) (cs:=#[.slice none 0 0,.slice none 0 0]) (t:=46) mq;have f3:=SN.out.free (g:=W.heap.size + 1) (cs:=#[.slice none 0 0,.slice none 0 0]) (t:=46) mq;have m40:=k4 0;have m41:=k4 1;have m42:=k4 2;have m43:=k4 3;have m44:=k4 4;have m45:=k4 5;have m46:=k4 6;have m47:=k4 7;have m48:=k4 8;have m49:=k4 9;have m50:=k5 0;have m51:=k5 1;simp at m40 m41 m42 m43 m44 m45 m46 m47 m48 m49 m50 m51;clear k4 k5))
  refine hK.out _ _ ?_ (fun hHeld=>?_)
  ·go_keep
  clear hK K
  (try simp only [aP,aZ,aS,aG,aH,aI])
  refine tku (b:=?_) [4] (by kernel_rfl) hHeld ?_ ?_
  rotate_left
  ·repeat first
   |exact .nil
   |refine .yes (v:=?_) rfl (by rfl) ?_ ?_
    rotate_left
    ·intro w9 hSw;(try dsimp only at hSw);go_simp;(try with_reducible rfl)
    (try simp only [aP,aZ,aS,aG,aH,aI])
  refine onu 6 rfl (by kernel_rfl) fun K hK=>?_
  go_simp
  refine hK.out _ _ ?_ (fun hHeld=>?_)
  ·go_keep
  clear hK K
  (try simp only [aP,aZ,aS,aG,aH,aI])
  refine onu 7 rfl (by kernel_rfl) fun K hK=>?_
  go_simp
  ((go_at_call 156;refine Sit.cs SN.out fun SN0=>?_;(try simp only [World.size_alloc,World.size_drew] at SN0);refine (pick_sit SN0 HB.out (by repeat first | with_reducible exact List.mem_cons_self | with_reducible exact .head _ | refine .tail _ ?_) (by repeat first | with_reducible exact List.mem_cons_self | with_reducible exact .head _ | refine .tail _ ?_) _ _ (by rfl) (by decide) (by decide) (by simp)).mono ?_;rintro e w1 ⟨p,rfl,SN1,T1⟩;clear m40 m41 m42 m43 m44 m45 m46 m47 m48 m49 m50 m51 k2 f2 k3 f3;have SN2:=Lib.hid SN1;clear SN SN0 SN1 T1;have SN:=SN2;clear SN2;have k4:=SN.out.box (g:=b4) (cs:=(cR r A1 c1 A2 c2 A3 c3)) (t:=41) mq;have k5:=SN.out.box (g:=b4 + 1) (cs:=#[.slice A7 zs2.length c7,.slice A8 x.spots.length c8]) (t:=46) mq;have k2:=SN.out.box (g:=W.heap.size) (cs:=cZ) (t:=41) mq;have f2:=SN.out.free (g:=W.heap.size) (cs:=cZ) (t:=41) mq;have k3:=SN.out.box (g:=W.heap.size + 1) (cs:=#[.slice none 0 0,.slice none 0 0]) (t:=46) mq;have f3:=SN.out.free (g:=W.heap.size + 1) (cs:=#[.slice none 0 0,.slice none 0 0]) (t:=46) mq;have m40:=k4 0;have m41:=k4 1;have m42:=k4 2;have m43:=k4 3;have m44:=k4 4;have m45:=k4 5;have m46:=k4 6;have m47:=k4 7;have m48:=k4 8;have m49:=k4 9;have m50:=k5 0;have m51:=k5 1;simp at m40 m41 m42 m43 m44 m45 m46 m47 m48 m49 m50 m51;clear k4 k5))
  refine hK.out _ _ ?_ (fun hHeld=>?_)
  ·go_keep
  clear hK K
  (try simp only [aP,aZ,aS,aG,aH,aI])
  refine onu 8 rfl (by kernel_rfl) fun K hK=>?_
  go_simp
  refine hK.out _ _ ?_ (fun hHeld=>?_)
  ·go_keep
  clear hK K
  (try simp only [aP,aZ,aS,aG,aH,aI])
  refine onu 9 rfl (by kernel_rfl) fun K hK=>?_
  go_simp
  refine hK.out _ _ ?_ (fun hHeld=>?_)
  ·go_keep
  clear hK K
  (try simp only [aP,aZ,aS,aG,aH,aI])
  refine onu 10 rfl (by kernel_rfl) fun K hK=>?_
  go_simp
  refine hK.out _ _ ?_ (fun hHeld=>?_)
  ·go_keep
  clear hK K
  (try simp only [aP,aZ,aS,aG,aH,aI])
  refine lsu 11 rfl (by kernel_rfl) fun K hK=>?_
  go_simp
  refine hK.out _ _ ?_
  clear hK K
  (try simp only [aP,aZ,aS,aG,aH,aI])
  go_wp2_with fail
  refine bodyPost_ret (v:=.tuple #[.agg (cR r A1 c1 A2 c2 A3 c3),.agg #[.slice A7 zs2.length c7,.slice A8 x.spots.length c8],.int .i64 (IntKind.i64.wrap (y - 1)),.int .i64 (p)]) (by simp [results,Tryz.results140,go_sem,k2,f2,k3,f3]) rfl ?_
  exact ⟨_,r,fp,_,_,x,_,_,_,rfl,(((((SN.out.up7).up7.rot2).sub (.cons_cons _ (.cons_cons _ (.cons _ (.cons _ (.cons _ (.cons _ ((.cons_cons _ (.cons_cons _ (List.Sublist.refl _))))))))))).overL [.int .i64 r.way,.int .i64 r.pallet.w,.int .i64 r.pallet.d,.int .i64 r.pallet.h,.int .i64 r.pallet.gram,.int .i64 r.classes,.slice A1 r.pairs.length c1,.slice A2 r.types.length c2,.int .i64 r.master,.slice A3 r.items.length c3] 0).rot2.overL [.slice A7 zs2.length c7,.slice A8 x.spots.length c8] 0).drop.drop,hbk,hsx⟩
 refine .cons rfl (by kernel_rfl) (fun K hK=>?_) ?_
 ·go_simp
  refine hK.out _ _ ?_ (fun hHeld=>?_)
  ·go_keep
  clear hK K
  (try simp only [aP,aZ,aS,aG,aH,aI])
  refine onu 3 rfl (by kernel_rfl) fun K hK=>?_
  go_simp
  ((go_at_call 133;refine Sit.cs SN.out fun SN0=>?_;(try simp only [World.size_alloc,World.size_drew] at SN0);refine (below_sit SN0 HB.out (by repeat first | with_reducible exact List.mem_cons_self | with_reducible exact .head _ | refine .tail _ ?_) _ (by omega)).mono ?_;rintro e w1 ⟨y,rfl,hy,SN1,T1⟩;clear hy;clear m40 m41 m42 m43 m44 m45 m46 m47 m48 m49 m50 m51 k2 f2 k3 f3;have SN2:=Lib.hid SN1;clear SN SN0 SN1 T1;have SN:=SN2;clear SN2;have k4:=SN.out.box (g:=b4) (cs:=(cR r A1 c1 A2 c2 A3 c3)) (t:=41) mq;have k5:=SN.out.box (g:=b4 + 1) (cs:=#[.slice A7 zs2.length c7,.slice A8 x.spots.length c8]) (t:=46) mq;have k2:=SN.out.box (g:=W.heap.size) (cs:=cZ) (t:=41) mq;have f2:=SN.out.free (g:=W.heap.size) (cs:=cZ) (t:=41) mq;have k3:=SN.out.box (g:=W.heap.size + 1) (cs:=#[.slice none 0 0,.slice none 0 0]) (t:=46) mq;have f3:=SN.out.free (g:=W.heap.size + 1) (cs:=#[.slice none 0 0,.slice none 0 0]) (t:=46) mq;have m40:=k4 0;have m41:=k4 1;have m42:=k4 2;have m43:=k4 3;have m44:=k4 4;have m45:=k4 5;have m46:=k4 6;have m47:=k4 7;have m48:=k4 8;have m49:=k4 9;have m50:=k5 0;have m51:=k5 1;simp at m40 m41 m42 m43 m44 m45 m46 m47 m48 m49 m50 m51;clear k4 k5))
  refine hK.out _ _ ?_ (fun hHeld=>?_)
  ·go_keep
  clear hK K
  (try simp only [aP,aZ,aS,aG,aH,aI])
  refine tku (b:=?_) [4] (by kernel_rfl) hHeld ?_ ?_
  rotate_left
  ·repeat first
   |exact .nil
   |refine .yes (v:=?_) rfl (by rfl) ?_ ?_
    rotate_left
    ·intro w9 hSw;(try dsimp only at hSw);go_simp;(try with_reducible rfl)
    (try simp only [aP,aZ,aS,aG,aH,aI])
  refine onu 7 rfl (by kernel_rfl) fun K hK=>?_
  go_simp
  ((go_at_call 156;refine Sit.cs SN.out fun SN0=>?_;(try simp only [World.size_alloc,World.size_drew] at SN0);refine (pick_sit SN0 HB.out (by repeat first | with_reducible exact List.mem_cons_self | with_reducible exact .head _ | refine .tail _ ?_) (by repeat first | with_reducible exact List.mem_cons_self | with_reducible exact .head _ | refine .tail _ ?_) _ _ (by rfl) (by decide) (by decide) (by simp)).mono ?_;rintro e w1 ⟨p,rfl,SN1,T1⟩;clear m40 m41 m42 m43 m44 m45 m46 m47 m48 m49 m50 m51 k2 f2 k3 f3;have SN2:=Lib.hid SN1;clear SN SN0 SN1 T1;have SN:=SN2;clear SN2;have k4:=SN.out.box (g:=b4) (cs:=(cR r A1 c1 A2 c2 A3 c3)) (t:=41) mq;have k5:=SN.out.box (g:=b4 + 1) (cs:=#[.slice A7 zs2.length c7,.slice A8 x.spots.length c8]) (t:=46) mq;have k2:=SN.out.box (g:=W.heap.size) (cs:=cZ) (t:=41) mq;have f2:=SN.out.free (g:=W.heap.size) (cs:=cZ) (t:=41) mq;have k3:=SN.out.box (g:=W.heap.size + 1) (cs:=#[.slice none 0 0,.slice none 0 0]) (t:=46) mq;have f3:=SN.out.free (g:=W.heap.size + 1) (cs:=#[.slice none 0 0,.slice none 0 0]) (t:=46) mq;have m40:=k4 0;have m41:=k4 1;have m42:=k4 2;have m43:=k4 3;have m44:=k4 4;have m45:=k4 5;have m46:=k4 6;have m47:=k4 7;have m48:=k4 8;have m49:=k4 9;have m50:=k5 0;have m51:=k5 1;simp at m40 m41 m42 m43 m44 m45 m46 m47 m48 m49 m50 m51;clear k4 k5))
  refine hK.out _ _ ?_ (fun hHeld=>?_)
  ·go_keep
  clear hK K
  (try simp only [aP,aZ,aS,aG,aH,aI])
  refine onu 8 rfl (by kernel_rfl) fun K hK=>?_
  go_simp
  refine hK.out _ _ ?_ (fun hHeld=>?_)
  ·go_keep
  clear hK K
  (try simp only [aP,aZ,aS,aG,aH,aI])
  refine onu 9 rfl (by kernel_rfl) fun K hK=>?_
  go_simp
  refine hK.out _ _ ?_ (fun hHeld=>?_)
  ·go_keep
  clear hK K
  (try simp only [aP,aZ,aS,aG,aH,aI])
  refine onu 10 rfl (by kernel_rfl) fun K hK=>?_
  go_simp
  refine hK.out _ _ ?_ (fun hHeld=>?_)
  ·go_keep
  clear hK K
  (try simp only [aP,aZ,aS,aG,aH,aI])
  refine lsu 11 rfl (by kernel_rfl) fun K hK=>?_
  go_simp
  refine hK.out _ _ ?_
  clear hK K
  (try simp only [aP,aZ,aS,aG,aH,aI])
  go_wp2_with fail
  refine bodyPost_ret (v:=.tuple #[.agg (cR r A1 c1 A2 c2 A3 c3),.agg #[.slice A7 zs2.length c7,.slice A8 x.spots.length c8],.int .i64 (IntKind.i64.wrap (y - 1)),.int .i64 (p)]) (by simp [results,Tryz.results140,go_sem,k2,f2,k3,f3]) rfl ?_
  exact ⟨_,r,fp,_,_,x,_,_,_,rfl,(((((SN.out.up7).up7.rot2).sub (.cons_cons _ (.cons_cons _ (.cons _ (.cons _ (.cons _ (.cons _ ((.cons_cons _ (.cons_cons _ (List.Sublist.refl _))))))))))).overL [.int .i64 r.way,.int .i64 r.pallet.w,.int .i64 r.pallet.d,.int .i64 r.pallet.h,.int .i64 r.pallet.gram,.int .i64 r.classes,.slice A1 r.pairs.length c1,.slice A2 r.types.length c2,.int .i64 r.master,.slice A3 r.items.length c3] 0).rot2.overL [.slice A7 zs2.length c7,.slice A8 x.spots.length c8] 0).drop.drop,hbk,hsx⟩
 exact .nil
set_option maxRecDepth 100000 in
set_option maxHeartbeats 40000000 in
theorem DrawPicture_any (v:Value) (xs:List Int) (w W:World) (L:List Fact) (hS:Sit w W L) (hx:RBytes w w.heap.size v xs):Calls Tryz.prog 54 #[v] W fun e w'=>∃ (u:Value) (r:Request) (fp:List Nat) (vc vs:Value) (x:Plan) (fq:List Nat) (n0 n1:Int),e=.returned (.tuple #[u,.agg #[vc,vs],.int .i64 n0,.int .i64 n1])∧Sit w w' (fRq u r fp::fRp vc vs x fq::L)∧r.bulk≤80∧PlanSmall x:=by
 have HB:=Lib.hid hx
 have SN:=Lib.hid ((hS.alloc cZ 41).alloc #[.slice none 0 0,.slice none 0 0] 46)
 simp only [World.size_alloc] at SN
 clear hS hx
 go_enter Tryz.func54,Tryz.ntmps54
 go_upto_region 1 with fail
 generalize hW1:(W.alloc (.cells cZ 41)).alloc (.cells #[.slice none 0 0,.slice none 0 0] 46)=W1 at SN ⊢
 clear hW1
 go_wp2_with fail
 refine (l24Four_any v xs _ _ _ SN.out HB.out).mono ?_
 rintro e w2 ⟨u,r,fp,vc,vs,x,fq,m0,m1,rfl,SN1,hbk,hsx⟩
 obtain ⟨vp,vt,vi,rfl,⟨A1,c1,rfl,_⟩,⟨A2,c2,rfl,_⟩,⟨A3,c3,rfl,_⟩⟩:=SN1.on _ (.head _)
 obtain ⟨zs2,hz2,⟨A7,c7,rfl,_⟩,_,⟨A8,c8,rfl,_⟩⟩:=RpOn.open (SN1.on _ (.tail _ (.head _)))
 have HZ2:=Lib.hid hz2
 have hbt:=SN1.boxlt (.tail _ (.tail _ (.head _)))
 clear hz2
 have k2:=SN1.box (g:=W.heap.size) (cs:=cZ) (t:=41) mq
 have f2:=SN1.free (g:=W.heap.size) (cs:=cZ) (t:=41) mq
 have k3:=SN1.box (g:=W.heap.size + 1) (cs:=#[.slice none 0 0,.slice none 0 0]) (t:=46) mq
 have f3:=SN1.free (g:=W.heap.size + 1) (cs:=#[.slice none 0 0,.slice none 0 0]) (t:=46) mq
 have SF:=Lib.hid ((((((SN1.rot4).rot4).rot2).overL [.int .i64 r.way,.int .i64 r.pallet.w,.int .i64 r.pallet.d,.int .i64 r.pallet.h,.int .i64 r.pallet.gram,.int .i64 r.classes,.slice A1 r.pairs.length c1,.slice A2 r.types.length c2,.int .i64 r.master,.slice A3 r.items.length c3] 0).rot2.overL [.slice A7 zs2.length c7,.slice A8 x.spots.length c8] 0))
 go_wp2_with fail
 refine bodyPost_ret (v:=.tuple #[.agg (cR r A1 c1 A2 c2 A3 c3),.agg #[.slice A7 zs2.length c7,.slice A8 x.spots.length c8],.int .i64 m0,.int .i64 m1]) (by simp [results,Tryz.results54,go_sem,k2,f2,k3,f3]) rfl ?_
 exact ⟨_,r,fp,_,_,x,_,_,_,rfl,SF.out.drop.drop,hbk,hsx⟩
end Go.Proofs.YtioijfplbgpjpaaGreat
namespace Go.Proofs.YtioijfplbgpjpaaGreat
set_option linter.unusedVariables false
set_option linter.unusedSimpArgs false
set_option maxRecDepth 100000
open Go.RowKit
def cU (n:Int):List Value:=[.int .u8 n]
theorem info_u8:(Tryz.prog.info? 5).map (fun i=>(i.zero,i.size,i.bytes))=some (some (.int .u8 0),1,1):=by kernel_rfl
theorem one_Byte:∀ (y:Int),∀ u∈cU y,u.oneCell'=true:=fun y u hu=>by simp [cU] at hu;subst hu;rfl
def byt (xs:List Int):ByteArray:=⟨(xs.map fun x=>UInt8.ofNat x.toNat).toArray⟩
theorem of_back {P:Program} {W:World} {base g c:Nat} {xs:List Int} {fp:List Nat} (h:OF cU 5 1 W base (.slice (some ⟨g,0,none⟩) xs.length c) xs fp) (hb:∀ x∈xs,0≤x∧x < 256) (src dst:TypeId) (hs:P.underlying src=some (.slice 5)) (he:P.underlying 5=some (.int .u8)) (hd:P.underlying dst=some .string):(convert src dst (.slice (some ⟨g,0,none⟩) xs.length c)).run P W=.ok (.string (byt xs)) W:=by
 have hl:(xs.map fun x=>UInt8.ofNat x.toNat).length=xs.length:=by simp
 have:=run_convert_bytes_back (P:=P) W src dst 5 ⟨g,0,none⟩ c (xs.map fun x=>UInt8.ofNat x.toNat) hs he hd (fun j hj=>by
  rw [hl] at hj
  have hx:xs[j]? = some xs[j]:=List.getElem?_eq_getElem hj
  have h2:=h.cells (fun _=>rfl) hx 0 _ rfl
  rw [Nat.mul_one,Nat.add_zero] at h2
  have h3:(⟨g,0,none⟩:Addr).add j=⟨g,j,none⟩:=by
   unfold Addr.add
   split <;> simp_all
  rw [h3,h2,List.getElem_map]
  obtain ⟨h4,h5⟩:=hb _ (List.getElem_mem hj)
  have h6:((UInt8.ofNat (xs[j]).toNat).toNat:Int)=xs[j]:=by
   rw [UInt8.toNat_ofNat']
   omega
  rw [h6])
 rw [hl] at this
 exact this
theorem wapp_Byte {o:Oper} {a:Act} {K:Act→World→Prop} {Q:Exit→Act→World→Prop} {w:World} (s x:Operand)
  (ho:o.op=.call { callee:=.builtin .append,args:=#[s,x],argTypes:=#[63,63] }) {base bd B:Nat} {v:Value} {xs ys:List Int} {fp:List Nat} {A:Option Addr} {m c:Nat} (hs:a.eval s=v)
  (hx:a.eval x=.slice A m c) (hr:RL bd 1 (flat cU) w B (.slice A m c) ys) (hown:OF cU 5 1 w base v xs fp) (hl:xs.length + ys.length≤33554432) (hbase:base≤w.heap.size)
  (h:∀ v' w',AppOF cU 5 1 w base (xs ++ ys) fp v' w'→K (a.put o.dst v') w'):o.wp Tryz.prog a w K Q:=by
 obtain ⟨i0,hi,hz0,hz1,hz2⟩:=info_parts info_u8
 have hm:=hr.len_cap.1
 exact wp_appAll w s x 63 ho base 5 i0 _ 1 1 Tryz.underlying63 hi hz0 hz1 hz2 rfl (by omega) v _ _ hs hown.1 bd B cU A m c ys hx hr hm (fun _=>rfl) one_Byte (by unfold maxLen;omega) (by omega) hbase
  (fun v' w' h1 h2 h3=>h v' w' (OF.app_of_row (by rw [List.flatMap_append];exact h1) (by rw [List.length_append,hm]) h2 h3 hown.2))
theorem pappAll_Byte {ops:Array Oper} {rest:List Oper} {o:Oper} {a:Act} {Q:Exit→Act→World→Prop} {w:World} (s x:Operand) (hgd:o.guard=none)
  (ho:o.op=.call { callee:=.builtin .append,args:=#[s,x],argTypes:=#[63,63] }) {base bd B:Nat} {v:Value} {xs ys:List Int} {fp:List Nat} {A:Option Addr} {m c:Nat} (hs:a.eval s=v)
  (hx:a.eval x=.slice A m c) (hr:RL bd 1 (flat cU) w B (.slice A m c) ys) (hown:OF cU 5 1 w base v xs fp) (hl:xs.length + ys.length≤33554432) (hbase:base≤w.heap.size)
  (h:∀ v' w',AppOF cU 5 1 w base (xs ++ ys) fp v' w'→wpList Tryz.prog ops Q rest (a.put o.dst v') w'):wpList Tryz.prog ops Q (o::rest) a w :=
 wpList_plain hgd fun _ hK=>wapp_Byte s x ho hs hx hr hown hl hbase fun v' w' ha=>hK _ _ (h v' w' ha)
theorem papp_Byte {ops:Array Oper} {rest:List Oper} {o:Oper} {a:Act} {Q:Exit→Act→World→Prop} {w:World} (s x:Operand) (hgd:o.guard=none)
  (ho:o.op=.call { callee:=.builtin .append,args:=#[s,x],argTypes:=#[63,63] }) {base:Nat} {v:Value} {xs:List Int} {fp:List Nat} (y:Int) {news:Array Value} {N:Nat} (hs:a.eval s=v)
  (hx:a.eval x=.slice (some ⟨N,0,none⟩) 1 1) (hN:w.heap[N]? = some (.cells news 5 (0,0))) (hy:news=(cU y).toArray) (hown:OF cU 5 1 w base v xs fp) (hl:xs.length < 16777216) (hbase:base≤w.heap.size)
  (h:∀ v' w',AppOF cU 5 1 w base (xs ++ [y]) fp v' w'→wpList Tryz.prog ops Q rest (a.put o.dst v') w'):wpList Tryz.prog ops Q (o::rest) a w :=
 pappAll_Byte s x hgd ho hs hx (RL_one1 hN hy rfl (Nat.lt_succ_self N)) hown (by simp;omega) hbase h
end Go.Proofs.YtioijfplbgpjpaaGreat
namespace Go.Proofs.YtioijfplbgpjpaaGreat
set_option linter.unusedVariables false
set_option linter.unusedSimpArgs false
set_option maxRecDepth 100000
open Go.RowKit Go.WideShapes Go.ChangeShapes Go.ChangeAt Go.Deep
@[simp] abbrev cB5 (X:World) (b o m:Nat) (s:Box):Prop:=X.cell? ⟨b,o + m * 4,none⟩=some (.int .i64 s.w)∧X.cell? ⟨b,o + m * 4 + 1,none⟩=some (.int .i64 s.d)∧X.cell? ⟨b,o + m * 4 + 2,none⟩=some (.int .i64 s.h)∧X.cell? ⟨b,o + m * 4 + 3,none⟩=some (.int .i64 s.gram)
abbrev RBoxes (w:World) (B:Nat) (v:Value) (xs:List Box):Prop:=RL 16777216 4 (flat Box.cells) w B v xs
theorem RBoxes.one {w:World} {A:Option Addr} {n c:Nat} {xs:List Box} (h:RBoxes w w.heap.size (.slice A n c) xs) (i:Nat) (hi:i < xs.length) :
  ∃ b off s,A=some ⟨b,off,none⟩∧b < w.heap.size∧xs[i]? = some s∧Hid (∀ X:World,Below w.heap.size w X→cB5 X b off i s):=by
 obtain ⟨b,off,s,cs,rfl,hb,hx,_,rfl,hc⟩:=h.at_ i hi
 exact ⟨b,off,s,rfl,hb,hx,Lib.hid fun X hX=>⟨(hX.cell (p:=⟨b,_,none⟩) hb).trans (hc 0 _ rfl),(hX.cell (p:=⟨b,_,none⟩) hb).trans (hc 1 _ rfl),(hX.cell (p:=⟨b,_,none⟩) hb).trans (hc 2 _ rfl),(hX.cell (p:=⟨b,_,none⟩) hb).trans (hc 3 _ rfl)⟩⟩
def drawable (r:Request) (x:Plan) (k z:Int):Bool:=feasible r x && (decide (r.pallet.w≤40) && (decide (r.pallet.d≤40) && (inB k 0 (wrap64 (palletsR x.spots - 1)) && inB z 0 (wrap64 (r.pallet.h - 1)))))
def rowP (r:Request) (x:Plan) (k z:Int) (y:Nat):List Int:=(List.range r.pallet.w.toNat).map fun q:Nat=>pixS r x k z q y
def pictureR (r:Request) (x:Plan) (k z:Int):List ByteArray:=if drawable r x k z=true then (List.range r.pallet.d.toNat).map fun y=>byt (rowP r x k z y) else []
theorem picture_len (r:Request) (x:Plan) (k z:Int):(pictureR r x k z).length≤40:=by
 unfold pictureR
 split
 ·rename_i h
  unfold drawable at h
  simp only [Bool.and_eq_true,decide_eq_true_eq] at h
  rw [List.length_map,List.length_range]
  omega
 ·simp
theorem range_map_step {α:Type} (f:Nat→α) (n:Nat):(List.range (n + 1)).map f=(List.range n).map f ++ [f n]:=by rw [List.range_succ,List.map_append];rfl
theorem sign_mod {i:Int} (h:0≤i):sign i=97 + i % 26:=by unfold sign;rw [Int.tmod_eq_emod_of_nonneg h]
theorem pixS_in (r:Request) (x:Plan) (k z px py:Int) (hc:x.cartons.length≤16777216):0≤pixS r x k z px py∧pixS r x k z px py < 256:=by
 unfold pixS
 split
 ·omega
 ·rename_i hn
  have h:=(firstFrom_lt (covB r x k z px py) (List.range x.cartons.length) 0).1
  rw [List.length_range] at h
  rw [sign_mod (by omega)]
  omega
set_option maxRecDepth 100000 in
set_option maxHeartbeats 2000000 in
theorem l21Boxes_any (v vx:Value) (r:Request) (x:Plan) (w:World) (h:RReq 16777216 w w.heap.size v r) (hx:RPlan 16777216 w w.heap.size vx x):Calls Tryz.prog 117 #[v,vx] w (MOF Box.cells 75 4 w (x.cartons.map (boxR r))):=by
 have HR:=Lib.hid h
 have HX:=Lib.hid hx
 obtain ⟨A1,c1,A2,c2,A3,c3,rfl,_⟩:=h.opn
 obtain ⟨PA,ca,PB,cb,rfl,HPA,HPB,hla,hlb⟩:=hx.opn
 have hS:=(((Sit.here w).alloc (cR r A1 c1 A2 c2 A3 c3) 41).alloc #[.slice PA x.cartons.length ca,.slice PB x.spots.length cb] 46).alloc #[] 75
 simp only [World.size_alloc] at hS
 have SN:=Lib.hid (hS.boxNil Box.cells 4)
 clear h hx hS
 go_enter Tryz.func117,Tryz.ntmps117
 have k1:=SN.out.box (.tail _ (.head _))
 have l1:=SN.out.boxlt (.tail _ (.head _))
 go_wp2
 clear k1 l1
 go_loopw [5,6] (fun vv i wr=>∃ (k:Nat) (fb:List Nat),k≤x.cartons.length∧i=.int .i64 k∧Hid (Sit w wr [fOF Box.cells 75 4 w.heap.size vv ((x.cartons.take k).map (boxR r)) fb,fBox (w.heap.size + 1) #[.slice PA x.cartons.length ca,.slice PB x.spots.length cb] 46,fBox w.heap.size (cR r A1 c1 A2 c2 A3 c3) 41])) (fun _ i _=>x.cartons.length - (intOf i).toNat)
 case atStart=>exact ⟨0,_,Nat.zero_le _,rfl,SN⟩
 case round =>
  clear SN
  obtain ⟨k,fb,hk,rfl,SN⟩:=hrel
  have k1:=SN.out.box (.tail _ (.head _))
  have l1:=SN.out.boxlt (.tail _ (.head _))
  by_cases hlt:k < x.cartons.length
  ·obtain ⟨b,off,c,U,cu,rfl,hb,hc,HU,HC⟩:=HPA.out.one k hlt
   obtain ⟨bx,hbx⟩:∃ bx,boxR r c=bx:=⟨_,rfl⟩
   have HBX:=Lib.hid hbx
   have HTK:=Lib.hid (show (x.cartons.take (k + 1)).map (boxR r)=(x.cartons.take k).map (boxR r) ++ [bx] by rw [List.take_add_one,hc,List.map_append,← hbx];rfl)
   have hln:((x.cartons.take k).map (boxR r)).length≤k:=by rw [List.length_map,List.length_take];omega
   obtain ⟨BK,hBK⟩:∃ BK,(x.cartons.take k).map (boxR r)=BK:=⟨_,rfl⟩
   rw [hBK] at SN HTK hln
   obtain ⟨Ao,co,rfl,_⟩:=(SN.out.list (.head _)).form
   have HCC:=Lib.hid (show ∀ X:World,Below wr.heap.size wr X→(cS10 (X) (w.heap.size) (r) (.slice A1 r.pairs.length c1) (.slice A2 r.types.length c2) (.slice A3 r.items.length c3))∧X.cell? ⟨w.heap.size + 1,0,none⟩=some (.slice (some ⟨b,off,none⟩) x.cartons.length ca)∧(cC3 (X) (b) (off) (k) (c) (.slice U c.units.length cu)) from fun X hX=>by
    have hX:=SN.out.next hX
    have c0:=hX.box (.tail _ (.tail _ (.head _)))
    exact ⟨⟨c0 0,c0 1,c0 2,c0 3,c0 4,c0 5,c0 6,c0 7,c0 8,c0 9⟩,hX.box (.tail _ (.head _)) 0,HC.out X hX.low⟩)
   clear hc hbx hBK
   go_upto_region 5 with fail
   clear k1 l1
   refine regu (S:=(fun W'=>((cS10 (W') (w.heap.size) (r) (.slice A1 r.pairs.length c1) (.slice A2 r.types.length c2) (.slice A3 r.items.length c3)))∧W'.cell? ⟨w.heap.size + 1,0,none⟩=some (.slice (some ⟨b,off,none⟩) x.cartons.length ca)∧(cC3 (W') (b) (off) (k) (c) (.slice U c.units.length cu)))) (by kernel_rfl) (fun _ _ _ _ _=>id) ?_ fun hHeld=>?_
   ·(first | exact hS7 | (refine HCC.out _ ?_;(repeat' with_reducible first | assumption | exact bR | apply bD | apply bA | apply bC | apply bW | omega | simp <;> omega);done) | go_keep)
   refine tku (b:=?_) [0,1,2,3,4,5,6] (by kernel_rfl) hHeld ?_ ?_
   rotate_left
   ·repeat first
    |exact .nil
    |refine .yes (v:=?_) rfl (by rfl) ?_ ?_
     rotate_left
     ·intro w9 hSw;(try dsimp only at hSw);go_simp;(try with_reducible rfl)
     (try simp only [aP,aZ,aS,aG,aH,aI])
   refine onu 7 rfl (by kernel_rfl) fun K hK=>?_
   go_simp
   ((go_at_call 91;refine (sBoxOf_any _ _ r c _ (HR.out.next (SN.out.next (by (repeat' with_reducible first | assumption | exact bR | apply bD | apply bA | apply bC | apply bW | omega | simp <;> omega))).low) (HU.out.next (flat_mono _) (SN.out.next (by (repeat' with_reducible first | assumption | exact bR | apply bD | apply bA | apply bC | apply bW | omega | simp <;> omega))).low)).mono ?_;rintro e w3 ⟨rfl,hb3⟩;rw [HBX.out];have hn3:=bstep (a:=wr) (by (repeat' with_reducible first | assumption | exact bR | apply bD | apply bA | apply bC | apply bW | omega | simp <;> omega)) hb3;have hz3:=hn3.size))
   refine hK.out _ _ ?_ (fun hHeld=>?_)
   ·(first | exact hS7 | (refine HCC.out _ ?_;(repeat' with_reducible first | assumption | exact bR | apply bD | apply bA | apply bC | apply bW | omega | simp <;> omega);done) | go_keep)
   clear hK K
   (try simp only [aP,aZ,aS,aG,aH,aI])
   refine onu 8 rfl (by kernel_rfl) fun K hK=>?_
   go_simp
   refine hK.out _ _ ?_ (fun hHeld=>?_)
   ·(first | exact hS7 | (refine HCC.out _ ?_;(repeat' with_reducible first | assumption | exact bR | apply bD | apply bA | apply bC | apply bW | omega | simp <;> omega);done) | go_keep)
   clear hK K
   (try simp only [aP,aZ,aS,aG,aH,aI])
   refine onu 9 rfl (by kernel_rfl) fun K hK=>?_
   (refine sapp_Box (.tmp 15) (.tmp 23) rfl rfl bx rfl rfl (heap_alloc_new _ _) rfl ((SN.out.list (.head _)).next (by (repeat' with_reducible first | assumption | exact bR | apply bD | apply bA | apply bC | apply bW | omega | simp <;> omega))) (by first | omega | (simp;done) | (simp;omega)) (by have:=SN.out.low.size;first | omega | (simp;done) | (simp;omega)) ?_;intro v7 w7 ha;obtain ⟨g7,S7⟩:=(SN.out.next (by (repeat' with_reducible first | assumption | exact bR | apply bD | apply bA | apply bC | apply bW | omega | simp <;> omega))).app ha;have S8:=Lib.hid S7;have q0:=S7.box (.tail _ (.tail _ (.head _)));have hS7:=And.intro (show cS10 (w7) (w.heap.size) (r) (.slice A1 r.pairs.length c1) (.slice A2 r.types.length c2) (.slice A3 r.items.length c3) from ⟨q0 0,q0 1,q0 2,q0 3,q0 4,q0 5,q0 6,q0 7,q0 8,q0 9⟩) (And.intro (S7.box (.tail _ (.head _)) 0) (HC.out w7 S7.low));clear S7 ha q0)
   refine hK.out _ _ ?_ (fun hHeld=>?_)
   ·(first | exact hS7 | (refine HCC.out _ ?_;(repeat' with_reducible first | assumption | exact bR | apply bD | apply bA | apply bC | apply bW | omega | simp <;> omega);done) | go_keep)
   clear hK K
   (try simp only [aP,aZ,aS,aG,aH,aI])
   refine lsu 10 rfl (by kernel_rfl) fun K hK=>?_
   go_simp
   refine hK.out _ _ ?_
   clear hK K
   (try simp only [aP,aZ,aS,aG,aH,aI])
   go_wp2_with fail
   go_roundw
   case rel=>exact ⟨k + 1,_,hlt,by go_num,by rw [HTK.out];exact S8⟩
   case measure=>simp [intOf] <;> omega
  ·obtain rfl:k=x.cartons.length:=by omega
   rw [List.take_length] at SN
   go_wp2
   go_ret
   exact SN.out.mof
set_option maxRecDepth 100000 in
set_option maxHeartbeats 2000000 in
theorem l24At_any (vb vx:Value) (r:Request) (x:Plan) (k px py z:Int) (w:World) (hb:RL 16777216 4 (flat Box.cells) w w.heap.size vb (x.cartons.map (boxR r))) (hx:RPlan 16777216 w w.heap.size vx x) (hfl:x.spots.length=x.cartons.length) :
  Calls Tryz.prog 118 #[vb,vx,.int .i64 k,.int .i64 px,.int .i64 py,.int .i64 z] w fun e w'=>e=.returned (.int .i64 (firstI (covB r x k z px py) (List.range x.cartons.length)))∧Below w.heap.size w w':=by
 have HX:=Lib.hid hx
 have HFL:=Lib.hid hfl
 obtain ⟨BS,hBS⟩:∃ BS,x.cartons.map (boxR r)=BS:=⟨_,rfl⟩
 have HBS:=Lib.hid hBS
 have hbl:BS.length=x.cartons.length:=by rw [← hBS,List.length_map]
 rw [hBS] at hb
 have HB:=Lib.hid (show RBoxes w w.heap.size vb BS from hb)
 obtain ⟨D,d,rfl,_⟩:=hb
 obtain ⟨PA,ca,PB,cb,rfl,HPA,HPB,hla,hlb⟩:=hx.opn
 rw [hbl] at HB ⊢
 have HBL:=Lib.hid hbl
 have hS:=(((Sit.here w).alloc #[.slice PA x.cartons.length ca,.slice PB x.spots.length cb] 46).alloc #[.int .i64 1,.int .i64 1,.int .i64 1,.int .i64 0] 75).alloc #[.int .i64 k,.int .i64 px,.int .i64 py,.int .i64 z] 72
 simp only [World.size_alloc] at hS
 have SN:=Lib.hid hS
 obtain ⟨p,hp⟩:∃ p,covB r x k z px py=p:=⟨_,rfl⟩
 have HP:=Lib.hid hp
 rw [hp]
 clear hx hS hBS hbl hfl hp
 go_enter Tryz.func118,Tryz.ntmps118
 go_wp2
 go_loopw [15] (fun i wr=>∃ (j:Nat),j≤x.cartons.length∧i=.int .i64 j∧Hid (firstFrom p (List.range x.cartons.length) j=firstI p (List.range x.cartons.length))∧Hid (Sit w wr [fBox (w.heap.size + 1 + 1) #[.int .i64 k,.int .i64 px,.int .i64 py,.int .i64 z] 72,fBox (w.heap.size + 1) #[.int .i64 1,.int .i64 1,.int .i64 1,.int .i64 0] 75,fBox w.heap.size #[.slice PA x.cartons.length ca,.slice PB x.spots.length cb] 46])) (fun i _=>x.cartons.length - (intOf i).toNat)
 case atStart=>exact ⟨0,Nat.zero_le _,rfl,Lib.hid rfl,SN⟩
 case round =>
  clear SN
  obtain ⟨j,hj,rfl,HF,SN⟩:=hrel
  by_cases hlt:j < x.cartons.length
  ·obtain ⟨c,hc⟩:∃ c,x.cartons[j]? = some c:=⟨_,List.getElem?_eq_getElem hlt⟩
   obtain ⟨b1,off1,bx,rfl,hb1,hbx,HC1⟩:=HB.out.one j (by rw [HBL.out];exact hlt)
   obtain ⟨b2,off2,s,rfl,hb2,hs,HC2⟩:=HPB.out.one j (by rw [HFL.out];exact hlt)
   have hbe:boxR r c=bx:=by rw [← HBS.out,List.getElem?_map,hc] at hbx;exact Option.some.inj hbx
   obtain ⟨f,hf⟩:∃ f,overB bx s ⟨1,1,1,0⟩ ⟨k,px,py,z⟩=f:=⟨_,rfl⟩
   have HOV:=Lib.hid hf
   have HPJ:=Lib.hid (show p j=f by rw [← HP.out];unfold covB;rw [boxAt_nat hc,hbe,spotAt_at hs];exact hf)
   have HST:=Lib.hid (firstFrom_step (p:=p) (show (List.range x.cartons.length)[j]? = some j from List.getElem?_range hlt))
   rw [HPJ.out,HF.out] at HST
   have hj2:j < x.spots.length:=by rw [HFL.out];exact hlt
   have HCC:=Lib.hid (show ∀ X:World,Below wr.heap.size wr X→cB5 X b1 off1 j bx∧X.cell? ⟨w.heap.size,1,none⟩=some (.slice (some ⟨b2,off2,none⟩) x.spots.length cb)∧(cS4 (X) (b2) (off2) (j) (s))∧(X.cell? ⟨w.heap.size + 1,0,none⟩=some (.int .i64 1)∧X.cell? ⟨w.heap.size + 1,1,none⟩=some (.int .i64 1)∧X.cell? ⟨w.heap.size + 1,2,none⟩=some (.int .i64 1)∧X.cell? ⟨w.heap.size + 1,3,none⟩=some (.int .i64 0))∧(X.cell? ⟨w.heap.size + 1 + 1,0,none⟩=some (.int .i64 k)∧X.cell? ⟨w.heap.size + 1 + 1,1,none⟩=some (.int .i64 px)∧X.cell? ⟨w.heap.size + 1 + 1,2,none⟩=some (.int .i64 py)∧X.cell? ⟨w.heap.size + 1 + 1,3,none⟩=some (.int .i64 z)) from fun X hX=>by
    have hX:=SN.out.next hX
    have q2:=hX.box (.head _)
    have q1:=hX.box (.tail _ (.head _))
    exact ⟨HC1.out X hX.low,hX.box (.tail _ (.tail _ (.head _))) 1,HC2.out X hX.low,⟨q1 0,q1 1,q1 2,q1 3⟩,⟨q2 0,q2 1,q2 2,q2 3⟩⟩)
   clear hc hbx hbe hs hf
   go_upto_region 6 with fail
   refine regu (S:=(fun W'=>cB5 W' b1 off1 j bx∧W'.cell? ⟨w.heap.size,1,none⟩=some (.slice (some ⟨b2,off2,none⟩) x.spots.length cb)∧(cS4 (W') (b2) (off2) (j) (s))∧(W'.cell? ⟨w.heap.size + 1,0,none⟩=some (.int .i64 1)∧W'.cell? ⟨w.heap.size + 1,1,none⟩=some (.int .i64 1)∧W'.cell? ⟨w.heap.size + 1,2,none⟩=some (.int .i64 1)∧W'.cell? ⟨w.heap.size + 1,3,none⟩=some (.int .i64 0))∧(W'.cell? ⟨w.heap.size + 1 + 1,0,none⟩=some (.int .i64 k)∧W'.cell? ⟨w.heap.size + 1 + 1,1,none⟩=some (.int .i64 px)∧W'.cell? ⟨w.heap.size + 1 + 1,2,none⟩=some (.int .i64 py)∧W'.cell? ⟨w.heap.size + 1 + 1,3,none⟩=some (.int .i64 z)))) (by kernel_rfl) (fun _ _ _ _ _=>id) ?_ fun hHeld=>?_
   ·(first | (refine HCC.out _ ?_;(repeat' with_reducible first | assumption | exact bR | apply bD | apply bA | apply bC | apply bW | omega | simp <;> omega);done) | go_keep)
   refine tku (b:=?_) [0,1,2,3,4,5,6,7,8,9,10] (by kernel_rfl) hHeld ?_ ?_
   rotate_left
   ·repeat first
    |exact .nil
    |refine .yes (v:=?_) rfl (by rfl) ?_ ?_
     rotate_left
     ·intro w9 hSw;(try dsimp only at hSw);go_simp;(try with_reducible rfl)
     (try simp only [aP,aZ,aS,aG,aH,aI])
   refine lsu 11 rfl (by kernel_rfl) fun K hK=>?_
   go_simp
   ((go_at_call 113;refine (sOverlap_any bx s ⟨1,1,1,0⟩ ⟨k,px,py,z⟩ _).mono ?_;rintro e w5 ⟨rfl,hb5⟩;rw [HOV.out];have hn5:=bstep (a:=wr) (by (repeat' with_reducible first | assumption | exact bR | apply bD | apply bA | apply bC | apply bW | omega | simp <;> omega)) hb5))
   refine hK.out _ _ ?_
   clear hK K
   (try simp only [aP,aZ,aS,aG,aH,aI])
   skip
   have SN:=Lib.hid (SN.out.next hn5)
   clear hn5 hb5 HCC
   cases f
   ·go_wp2
    go_roundw
    case rel=>exact ⟨j + 1,hlt,by go_num,Lib.hid (by rw [HST.out];rfl),SN⟩
    case measure=>simp [intOf] <;> omega
   ·go_wp2
    go_ret
    exact ⟨ret_int (by rw [HST.out];rfl),SN.out.low⟩
  ·obtain rfl:j=x.cartons.length:=by omega
   go_wp2
   go_ret
   exact ⟨ret_int (by rw [← HF.out];have:=firstFrom_end p (List.range x.cartons.length);rw [List.length_range] at this;exact this.symm),SN.out.low⟩
end Go.Proofs.YtioijfplbgpjpaaGreat
namespace Go.Proofs.YtioijfplbgpjpaaGreat
set_option linter.unusedVariables false
set_option linter.unusedSimpArgs false
set_option maxRecDepth 100000
open Go.RowKit
def sumTo (f:Nat→Int):Nat→Int
 |0=>0
 |n + 1=>sumTo f n + f n
theorem sumTo_add (f g:Nat→Int):∀ n,sumTo (fun z=>f z + g z) n=sumTo f n + sumTo g n
 |0=>rfl
 |n + 1=>by unfold sumTo;rw [sumTo_add f g n];omega
theorem sumTo_zero:∀ n,sumTo (fun _=>0) n=0
 |0=>rfl
 |n + 1=>by unfold sumTo;rw [sumTo_zero n];rfl
theorem sumTo_congr {f g:Nat→Int} : ∀ n,(∀ z,z < n→f z=g z)→sumTo f n=sumTo g n
 |0,_=>rfl
 |n + 1,h=>by unfold sumTo;rw [sumTo_congr n (fun z hz=>h z (by omega)),h n (by omega)]
theorem sumTo_band (a lo hi:Int):∀ n:Nat,0≤lo→lo≤hi→sumTo (fun z=>if lo≤(z:Int)∧(z:Int) < hi then a else 0) n=a * (min (n:Int) hi - min (n:Int) lo)
 |0,h0,h1=>by
  have e:min ((0:Nat):Int) hi - min ((0:Nat):Int) lo=0:=by omega
  rw [e,Int.mul_zero];rfl
 |n + 1,h0,h1=>by
  unfold sumTo
  rw [sumTo_band a lo hi n h0 h1]
  by_cases hc:lo≤(n:Int)∧(n:Int) < hi
  ·rw [if_pos hc]
   have e:min ((n + 1:Nat):Int) hi - min ((n + 1:Nat):Int) lo=(min (n:Int) hi - min (n:Int) lo) + 1:=by omega
   rw [e,Int.mul_add,Int.mul_one]
  ·rw [if_neg hc]
   have e:min ((n + 1:Nat):Int) hi - min ((n + 1:Nat):Int) lo=min (n:Int) hi - min (n:Int) lo:=by omega
   rw [e,Int.add_zero]
section
variable {r:Request} {x:Plan} {k:Int}
theorem sum_swap (g:Nat→Int→Int):∀ (l:List Int) (n:Nat),sumTo (fun z=>(l.map (g z)).sum) n=(l.map fun u=>sumTo (fun z=>g z u) n).sum
 |[],n=>by simp [sumTo_zero]
 |a::l,n=>by
  simp only [List.map_cons,List.sum_cons]
  rw [sumTo_add,sum_swap g l n]
end
end Go.Proofs.YtioijfplbgpjpaaGreat
namespace Go.Proofs.YtioijfplbgpjpaaGreat
set_option linter.unusedVariables false
set_option linter.unusedSimpArgs false
set_option maxRecDepth 100000
open Go.RowKit
theorem pal_range {r:Request} {x:Plan} (h:feasible r x=true):(1≤r.pallet.w∧r.pallet.w≤2000)∧(1≤r.pallet.d∧r.pallet.d≤2000)∧(1≤r.pallet.h∧r.pallet.h≤2000):=by
 have:=(right_of (feasible_iff.1 h).1).pal
 simp only [palletOk,sideOk,inB,Bool.and_eq_true,decide_eq_true_eq] at this
 omega
section
variable {r:Request} {x:Plan}
end
end Go.Proofs.YtioijfplbgpjpaaGreat
namespace Go.Proofs.YtioijfplbgpjpaaGreat
set_option linter.unusedVariables false
set_option linter.unusedSimpArgs false
set_option maxRecDepth 100000
open Go.RowKit Go.WideShapes Go.ChangeShapes Go.ChangeAt Go.Deep
set_option maxRecDepth 100000 in
set_option maxHeartbeats 4000000 in
theorem sPicture_any (v vx:Value) (r:Request) (x:Plan) (k z:Int) (w:World) (h:RReq 16777216 w w.heap.size v r) (hx:RPlan 16777216 w w.heap.size vx x) (hL:x.bulk≤16777216):Calls Tryz.prog 38 #[v,vx,.int .i64 k,.int .i64 z] w (MOF cS 9 1 w (pictureR r x k z)):=by
 have HR:=Lib.hid h
 have HX:=Lib.hid hx
 obtain ⟨A1,c1,A2,c2,A3,c3,rfl,_⟩:=h.opn
 obtain ⟨PA,ca,PB,cb,rfl,HPA,HPB,hla,hlb⟩:=hx.opn
 have hS:=(((Sit.here w).alloc (cR r A1 c1 A2 c2 A3 c3) 41).alloc #[.slice PA x.cartons.length ca,.slice PB x.spots.length cb] 46).alloc #[] 9
 simp only [World.size_alloc] at hS
 have SN:=Lib.hid (hS.boxNil cS 1)
 obtain ⟨q,hq⟩:∃ q,feasible r x=q:=⟨_,rfl⟩
 have HQ:=Lib.hid hq
 obtain ⟨f1,hf1⟩:∃ f,inB k 0 (wrap64 (palletsR x.spots - 1))=f:=⟨_,rfl⟩
 have HF1:=Lib.hid hf1
 obtain ⟨f2,hf2⟩:∃ f,inB z 0 (wrap64 (r.pallet.h - 1))=f:=⟨_,rfl⟩
 have HF2:=Lib.hid hf2
 have HM:=Lib.hid (show pictureR r x k z=if (q && (decide (r.pallet.w≤40) && (decide (r.pallet.d≤40) && (f1 && f2))))=true then (List.range r.pallet.d.toNat).map (fun y=>byt (rowP r x k z y)) else [] by unfold pictureR drawable;rw [hq,hf1,hf2])
 clear h hx hS hq hf1 hf2
 go_enter Tryz.func38,Tryz.ntmps38
 have k1:=SN.out.box (.tail _ (.head _));have l1:=SN.out.boxlt (.tail _ (.head _));have k0:=SN.out.box (.tail _ (.tail _ (.head _)));have l0:=SN.out.boxlt (.tail _ (.tail _ (.head _)))
 go_wp2_with fail
 refine (sFeasible_any _ _ r x _ (HR.out.next SN.out.low) (HX.out.next SN.out.low) hL).mono ?_
 rintro e1 w1 ⟨rfl,hb1⟩
 rw [HQ.out]
 have SN:=Lib.hid (SN.out.next hb1)
 clear k0 l0 k1 l1 hb1
 cases q
 ·go_wp2
  go_ret
  rw [HM.out]
  exact SN.out.mof
 have k1:=SN.out.box (.tail _ (.head _));have l1:=SN.out.boxlt (.tail _ (.head _));have k0:=SN.out.box (.tail _ (.tail _ (.head _)));have l0:=SN.out.boxlt (.tail _ (.tail _ (.head _)))
 by_cases hw:40 < r.pallet.w
 ·go_wp2
  go_ret
  rw [HM.out,decide_eq_false (show ¬ r.pallet.w≤40 by omega)]
  exact SN.out.mof
 by_cases hd:40 < r.pallet.d
 ·go_wp2
  go_ret
  rw [HM.out,decide_eq_false (show ¬ r.pallet.d≤40 by omega)]
  simp only [Bool.false_and,Bool.and_false]
  exact SN.out.mof
 rw [decide_eq_true (show r.pallet.w≤40 by omega),decide_eq_true (show r.pallet.d≤40 by omega)] at HM
 go_wp2_with fail
 refine (sPallets_any _ x.spots _ (HPB.out.next (flat_mono _) SN.out.low)).mono ?_
 rintro e2 w2 ⟨rfl,rfl⟩
 go_wp2_with fail
 (try simp only [wrapE])
 refine (l1In_any _ _ _ _).mono ?_
 rintro e2 w2 ⟨rfl,rfl⟩
 rw [HF1.out]
 cases f1
 ·go_wp2
  go_ret
  rw [HM.out]
  exact SN.out.mof
 go_wp2_with fail
 (try simp only [wrapE])
 refine (l1In_any _ _ _ _).mono ?_
 rintro e2 w2 ⟨rfl,rfl⟩
 rw [HF2.out]
 cases f2
 ·go_wp2
  go_ret
  rw [HM.out]
  exact SN.out.mof
 have HM:=Lib.hid (show pictureR r x k z=(List.range r.pallet.d.toNat).map (fun y=>byt (rowP r x k z y)) by rw [HM.out];rfl)
 obtain ⟨hpw,hpd,_⟩:=pal_range HQ.out
 obtain ⟨hfl,h100⟩:=feas_len HQ.out
 have HFL:=Lib.hid hfl
 clear hfl
 go_wp2_with fail
 refine (l21Boxes_any _ _ r x _ (HR.out.next SN.out.low) (HX.out.next SN.out.low)).mono ?_
 intro e3 w3 hm
 obtain ⟨vB,fB,rfl,hS⟩:=SN.out.gotOF hm
 obtain ⟨D,d,rfl,_⟩:=(hS.list (.head _)).form
 rw [List.length_map] at hS ⊢
 have SN:=Lib.hid hS.rot2
 clear k0 l0 k1 l1 hS hm
 obtain ⟨Dn,hDn⟩:∃ n:Nat,r.pallet.d.toNat=n:=⟨_,rfl⟩
 obtain ⟨Wn,hWn⟩:∃ n:Nat,r.pallet.w.toNat=n:=⟨_,rfl⟩
 rw [hDn] at HM
 go_wp2
 go_loopw [9,11] (fun vv i wr=>∃ (y:Nat) (fo:List Nat),y≤Dn∧i=.int .i64 y∧Hid (Sit w wr [fOF cS 9 1 w.heap.size vv ((List.range y).map fun y=>byt (rowP r x k z y)) fo,fOF Box.cells 75 4 w.heap.size (.slice D x.cartons.length d) (x.cartons.map (boxR r)) fB,fBox (w.heap.size + 1) #[.slice PA x.cartons.length ca,.slice PB x.spots.length cb] 46,fBox w.heap.size (cR r A1 c1 A2 c2 A3 c3) 41])) (fun _ i _=>Dn - (intOf i).toNat)
 case atStart=>exact ⟨0,_,Nat.zero_le _,rfl,SN⟩
 case round =>
  clear SN
  obtain ⟨y,fo,hy,rfl,SN⟩:=hrel
  obtain ⟨OL,hOL⟩:∃ O,((List.range y).map fun y=>byt (rowP r x k z y))=O:=⟨_,rfl⟩
  have hol:OL.length=y:=by rw [← hOL];simp
  have HTK:=Lib.hid (show ((List.range (y + 1)).map fun y=>byt (rowP r x k z y))=OL ++ [byt (rowP r x k z y)] by rw [range_map_step,hOL])
  rw [hOL] at SN
  obtain ⟨Ao,co,rfl,_⟩:=(SN.out.list (.head _)).form
  have HOL:=Lib.hid hol
  rw [hol] at SN ⊢
  have k0:=SN.out.box (.tail _ (.tail _ (.tail _ (.head _))))
  have l0:=SN.out.boxlt (.tail _ (.tail _ (.tail _ (.head _))))
  by_cases hlt:y < Dn
  ·have hlti:(y:Int) < r.pallet.d:=by omega
   have hS:=SN.out.alloc #[] 5
   have SN:=Lib.hid (hS.boxNil cU 1)
   clear hS hol hOL
   go_wp2
   clear k0 l0
   go_loopw [12,13] (fun vv i wr=>∃ (p:Nat) (fb:List Nat),p≤Wn∧i=.int .i64 p∧Hid (Sit w wr [fOF cU 5 1 w.heap.size vv ((List.range p).map fun q:Nat=>pixS r x k z q y) fb,fOF cS 9 1 w.heap.size (.slice Ao y co) OL fo,fOF Box.cells 75 4 w.heap.size (.slice D x.cartons.length d) (x.cartons.map (boxR r)) fB,fBox (w.heap.size + 1) #[.slice PA x.cartons.length ca,.slice PB x.spots.length cb] 46,fBox w.heap.size (cR r A1 c1 A2 c2 A3 c3) 41])) (fun _ i _=>Wn - (intOf i).toNat)
   case atStart=>exact ⟨0,_,Nat.zero_le _,rfl,SN⟩
   case round =>
    clear SN
    obtain ⟨p,fb,hp,rfl,SN⟩:=hrel
    obtain ⟨BL,hBL⟩:∃ O,((List.range p).map fun q:Nat=>pixS r x k z q y)=O:=⟨_,rfl⟩
    have hbl:BL.length=p:=by rw [← hBL];simp
    have hlb:BL.length≤100:=by omega
    have hbr:∀ u∈BL,0≤u∧u < 256:=by
     intro u hu
     rw [← hBL] at hu
     obtain ⟨q,_,rfl⟩:=List.mem_map.1 hu
     exact pixS_in r x k z q y (by omega)
    have HTP:=Lib.hid (show ((List.range (p + 1)).map fun q:Nat=>pixS r x k z q y)=BL ++ [pixS r x k z p y] by rw [range_map_step,hBL])
    have HBL:=Lib.hid hBL
    rw [hBL] at SN
    obtain ⟨Ab,cb',rfl,_⟩:=(SN.out.list (.head _)).form
    have HLB:=Lib.hid hbl
    rw [hbl] at SN ⊢
    by_cases hltp:p < Wn
    ·have hltpi:(p:Int) < r.pallet.w:=by omega
     obtain ⟨i0,hi0⟩:∃ i,firstI (covB r x k z p y) (List.range x.cartons.length)=i:=⟨_,rfl⟩
     have HI0:=Lib.hid hi0
     have hi1:i0 < x.cartons.length∧-1≤i0:=by
      rw [← hi0]
      have:=firstFrom_lt (covB r x k z p y) (List.range x.cartons.length) 0
      rwa [List.length_range] at this
     have k0:=SN.out.box (.tail _ (.tail _ (.tail _ (.tail _ (.head _)))))
     have l0:=SN.out.boxlt (.tail _ (.tail _ (.tail _ (.tail _ (.head _)))))
     have k1:=SN.out.box (.tail _ (.tail _ (.tail _ (.head _))))
     have l1:=SN.out.boxlt (.tail _ (.tail _ (.tail _ (.head _))))
     clear hbl hBL hi0
     go_wp2_with fail
     refine (l24At_any _ _ r x k p y z _ (OF.read (bd:=16777216) (SN.out.list (v:=.slice D x.cartons.length d) (.tail _ (.tail _ (.head _)))) (fun _=>rfl) (by rw [List.length_map];omega)) (HX.out.next SN.out.low) HFL.out).mono ?_
     rintro e4 w4 ⟨rfl,hb4⟩
     rw [HI0.out]
     have SN:=Lib.hid (SN.out.next hb4)
     clear k0 l0 k1 l1 hb4
     by_cases hneg:i0 < 0
     ·have HPX:=Lib.hid (show pixS r x k z p y=46 by unfold pixS;rw [HI0.out,if_pos hneg])
      go_wp2_with (at_builtin;refine papp_Byte _ _ rfl rfl (46) rfl rfl (alloc_at (by first | rfl | (simp;done) | (simp;omega))) rfl ((SN.out.list (.head _)).next (by repeat' with_reducible first | assumption | exact bR | apply bD | apply bA | apply bC | apply bN | simp <;> omega)) (by first | omega | (simp;omega)) (by have:=SN.out.low.size;first | omega | (simp;done) | (simp;omega) | (simp at this ⊢;omega)) ?_;intro v7 w7 ha;obtain ⟨g7,S7⟩:=(SN.out.next (by repeat' with_reducible first | assumption | exact bR | apply bD | apply bA | apply bC | apply bN | simp <;> omega)).app ha;have S8:=Lib.hid S7;clear S7 ha)
      go_roundw
      case rel=>exact ⟨p + 1,_,hltp,by go_num,by rw [HTP.out,HPX.out];exact S8⟩
      case measure=>simp [intOf] <;> omega
     ·have HPX:=Lib.hid (show pixS r x k z p y=97 + i0 % 26 by unfold pixS;rw [HI0.out,if_neg hneg,sign_mod (by omega)])
      go_wp2_with (at_builtin;refine papp_Byte _ _ rfl rfl (97 + i0 % 26) rfl rfl (alloc_at (by first | rfl | (simp;done) | (simp;omega))) rfl ((SN.out.list (.head _)).next (by repeat' with_reducible first | assumption | exact bR | apply bD | apply bA | apply bC | apply bN | simp <;> omega)) (by first | omega | (simp;omega)) (by have:=SN.out.low.size;first | omega | (simp;done) | (simp;omega) | (simp at this ⊢;omega)) ?_;intro v7 w7 ha;obtain ⟨g7,S7⟩:=(SN.out.next (by repeat' with_reducible first | assumption | exact bR | apply bD | apply bA | apply bC | apply bN | simp <;> omega)).app ha;have S8:=Lib.hid S7;clear S7 ha)
      go_roundw
      case rel=>exact ⟨p + 1,_,hltp,by go_num,by rw [HTP.out,HPX.out];exact S8⟩
      case measure=>simp [intOf] <;> omega
    ·obtain rfl:p=Wn:=by omega
     have hrow:rowP r x k z y=BL:=by rw [← HBL.out];unfold rowP;rw [hWn]
     obtain ⟨u0,hu0⟩:∃ u,BL[0]? = some u:=⟨_,List.getElem?_eq_getElem (by rw [hbl];omega)⟩
     obtain ⟨gb,rfl⟩:=head_ptr (SN.out.list (.head _)) hu0
     have hbk:=of_back (P:=Tryz.prog) (g:=gb) (c:=cb') (xs:=BL) (by rw [hbl];exact SN.out.list (.head _)) hbr 63 9 Tryz.underlying63 Tryz.underlying5 Tryz.underlying9
     rw [hbl] at hbk
     have k0:=SN.out.box (.tail _ (.tail _ (.tail _ (.tail _ (.head _)))))
     have l0:=SN.out.boxlt (.tail _ (.tail _ (.tail _ (.tail _ (.head _)))))
     have HRW:=Lib.hid hrow
     have SN:=Lib.hid SN.out.drop
     have hob:OL.length≤100:=by have:=HOL.out;omega
     clear hbl hBL hu0 hrow
     go_wp2_with (at_builtin;refine papp_String _ _ rfl rfl (byt BL) rfl rfl (alloc_at (by first | rfl | (simp;done) | (simp;omega))) rfl ((SN.out.list (.head _)).next (by repeat' with_reducible first | assumption | exact bR | apply bD | apply bA | apply bC | apply bN | simp <;> omega)) (by first | omega | (simp;omega)) (by have:=SN.out.low.size;first | omega | (simp;done) | (simp;omega) | (simp at this ⊢;omega)) ?_;intro v7 w7 ha;obtain ⟨g7,S7⟩:=(SN.out.next (by repeat' with_reducible first | assumption | exact bR | apply bD | apply bA | apply bC | apply bN | simp <;> omega)).app ha;have S8:=Lib.hid S7;clear S7 ha)
     go_roundw
     case rel=>exact ⟨y + 1,_,hlt,by go_num,by rw [HTK.out,HRW.out];exact S8⟩
     case measure=>simp [intOf] <;> omega
  ·obtain rfl:y=Dn:=by omega
   go_wp2
   go_ret
   rw [HM.out,hOL]
   exact SN.out.mof
end Go.Proofs.YtioijfplbgpjpaaGreat
namespace Go.Proofs.YtioijfplbgpjpaaGreat
set_option linter.unusedVariables false
set_option linter.unusedSimpArgs false
set_option maxRecDepth 100000
open Go.RowKit Go.WideShapes Go.ChangeShapes Go.ChangeAt Go.Deep
def hdB (z:List Int×Nat):List Value:=[.slice (some ⟨z.2,0,none⟩) z.1.length z.1.length]
abbrev fRow (B:Nat) (z:List Int×Nat):Fact:=fOF cU 5 1 B (.slice (some ⟨z.2,0,none⟩) z.1.length z.1.length) z.1 [z.2]
theorem map_split {α β:Type} (F:α→β) {zs:List α} {k:Nat} {z:α} (h:zs[k]? = some z):zs.map F=(zs.take k).map F ++ F z::(zs.drop (k + 1)).map F:=by
 have hk:=(List.getElem?_eq_some_iff.1 h).1
 have e:zs=zs.take k ++ z::zs.drop (k + 1):=by
  have:=List.drop_eq_getElem_cons hk
  rw [(List.getElem?_eq_some_iff.1 h).2] at this
  rw [← this,List.take_append_drop]
 conv=>lhs;rw [e]
 rw [List.map_append,List.map_cons]
theorem map_split_set {α β:Type} (F:α→β) {zs:List α} {k:Nat} {z z':α} (h:zs[k]? = some z):(zs.set k z').map F=(zs.take k).map F ++ F z'::(zs.drop (k + 1)).map F:=by
 have hk:=(List.getElem?_eq_some_iff.1 h).1
 rw [List.set_eq_take_append_cons_drop,if_pos hk,List.map_append,List.map_cons]
section
variable {w W:World} {l:List Fact} {B k j:Nat} {zs:List (List Int×Nat)} {z:List Int×Nat} {u:Int}
theorem Sit.rowSet (l:List Fact) (h:Sit w W (l ++ zs.map (fRow B))) (hz:zs[k]? = some z) (hj:j < z.1.length) (u:Int):Sit w (W.setCell ⟨z.2,j,none⟩ (.int .u8 u)) (l ++ (zs.set k (z.1.set j u,z.2)).map (fRow B)):=by
 have hp:∀ q:Fact,(l ++ ((zs.take k).map (fRow B) ++ q::(zs.drop (k + 1)).map (fRow B))).Perm (q::(l ++ ((zs.take k).map (fRow B) ++ (zs.drop (k + 1)).map (fRow B)))):=fun q=>(List.Perm.append_left l List.perm_middle).trans List.perm_middle
 rw [map_split (fRow B) hz] at h
 have h1:=Sit.put (us:=[.int .u8 u]) (j:=0) (y:=u) (h.perm (hp _)) (fun _=>rfl) (List.getElem?_eq_getElem hj) (by simp) rfl
 rw [map_split_set (fRow B) hz]
 refine Sit.perm ?_ (hp _).symm
 simp only [Nat.mul_one,Nat.add_zero,setW] at h1
 have e:fRow B (z.1.set j u,z.2)=fOF cU 5 1 B (.slice (some ⟨z.2,0,none⟩) z.1.length z.1.length) (z.1.set j u) [z.2]:=by
  show fOF cU 5 1 B (.slice (some ⟨z.2,0,none⟩) (z.1.set j u).length (z.1.set j u).length) (z.1.set j u) [z.2]=_
  rw [List.length_set]
 rw [e]
 exact h1
theorem Sit.rowAdd (l:List Fact) (h:Sit w W (fRow B z::(l ++ zs.map (fRow B)))):Sit w W (l ++ (zs ++ [z]).map (fRow B)):=by
 refine h.perm ?_
 rw [List.map_append,← List.append_assoc]
 exact (List.perm_append_singleton _ _).symm
end
theorem Sit.ink {e B':Nat} {v:Value} {f9:List Nat} {w W:World} {B k j:Nat} {zs:List (List Int×Nat)} {z:List Int×Nat} (l0 l:List Fact) (h:Sit w W (l0 ++ fOF hdB e 1 B' v zs f9::(l ++ zs.map (fRow B)))) (hz:zs[k]? = some z) (hj:j < z.1.length) (u:Int):Sit w (W.setCell ⟨z.2,j,none⟩ (.int .u8 u)) (l0 ++ fOF hdB e 1 B' v (zs.set k (z.1.set j u,z.2)) f9::(l ++ (zs.set k (z.1.set j u,z.2)).map (fRow B))):=by
 have h1:=Sit.rowSet (l0 ++ fOF hdB e 1 B' v zs f9::l) (by simpa using h) hz hj u
 have e1:(zs.set k (z.1.set j u,z.2)).flatMap hdB=zs.flatMap hdB:=by
  rw [List.flatMap_def,List.flatMap_def,List.map_set,show hdB (z.1.set j u,z.2)=hdB z by unfold hdB;simp]
  congr 1
  refine List.ext_getElem? fun i=>?_
  by_cases e:k=i
  ·subst e
   rw [List.getElem?_set_self (by simpa using (List.getElem?_eq_some_iff.1 hz).1),List.getElem?_map,hz];rfl
  ·rw [List.getElem?_set_ne e]
 have e2:fOF hdB e 1 B' v (zs.set k (z.1.set j u,z.2)) f9=fOF hdB e 1 B' v zs f9:=by
  unfold fOF OF
  rw [e1,List.length_set]
 rw [e2]
 simpa using h1
theorem made_zero (n:Nat):(madeCells (Value.int .u8 0).cells (n * 1)).toList=(List.replicate n (0:Int)).flatMap cU:=by
 rw [Nat.mul_one]
 refine List.ext_getElem? fun i=>?_
 have hl:((List.replicate n (0:Int)).flatMap cU)=List.replicate n (Value.int .u8 0):=by
  clear i
  induction n with
  |zero=>rfl
  |succ n ih=>rw [List.replicate_succ,List.flatMap_cons,ih,List.replicate_succ];rfl
 rw [hl]
 unfold madeCells
 rw [Array.toList_map,List.getElem?_map,List.getElem?_replicate]
 by_cases hi:i < n
 ·rw [if_pos hi,Array.toList_range,List.getElem?_range hi]
  simp [Value.cells,Nat.mod_one]
 ·rw [if_neg hi,Array.toList_range,List.getElem?_eq_none (by simp;omega)]
  rfl
def grid (c:Nat→Nat→Int) (Wn Dn:Nat):List (List Int):=(List.range Dn).map fun y=>(List.range Wn).map fun q=>c q y
section
variable {c c':Nat→Nat→Int} {Wn Dn:Nat} {zs:List (List Int×Nat)} {z:List Int×Nat}
theorem grid_congr (h:∀ q y,q < Wn→y < Dn→c q y=c' q y):grid c Wn Dn=grid c' Wn Dn:=by
 unfold grid
 refine List.map_congr_left fun y hy=>List.map_congr_left fun q hq=>?_
 exact h q y (List.mem_range.1 hq) (List.mem_range.1 hy)
theorem grid_at (hz:zs.map (·.1)=grid c Wn Dn) {y:Nat} (hy:y < Dn):∃ z,zs[y]? = some z∧z.1=(List.range Wn).map fun q=>c q y:=by
 have h:(zs.map (·.1))[y]? = some ((List.range Wn).map fun q=>c q y):=by rw [hz];unfold grid;rw [List.getElem?_map,List.getElem?_range hy];rfl
 rw [List.getElem?_map] at h
 cases hc:zs[y]? with
 |none=>rw [hc] at h;cases h
 |some z=>rw [hc] at h;exact ⟨z,rfl,Option.some.inj h⟩
theorem grid_set (hz:zs.map (·.1)=grid c Wn Dn) {y a:Nat} (hzy:zs[y]? = some z) (ha:a < Wn) (u:Int):(zs.set y (z.1.set a u,z.2)).map (·.1)=grid (fun q y'=>if y'=y∧q=a then u else c q y') Wn Dn:=by
 have hy:y < Dn:=by
  have h1:=(List.getElem?_eq_some_iff.1 hzy).1
  have h2:=congrArg List.length hz
  unfold grid at h2
  simp at h2
  omega
 obtain ⟨z',h1,h2⟩:=grid_at hz hy
 rw [hzy] at h1
 obtain rfl:=Option.some.inj h1
 rw [List.map_set,hz]
 unfold grid
 refine List.ext_getElem? fun i=>?_
 rw [List.getElem?_set]
 by_cases hi:i < Dn
 ·rw [List.getElem?_map,List.getElem?_map,List.getElem?_range hi]
  by_cases e:y=i
  ·subst e
   rw [if_pos rfl,if_pos (by simpa using hi),h2]
   simp only [Option.map_some]
   congr 1
   refine List.ext_getElem? fun q=>?_
   rw [List.getElem?_set]
   by_cases hq:q < Wn
   ·rw [List.getElem?_map,List.getElem?_map,List.getElem?_range hq]
    by_cases e2:a=q
    ·subst e2
     rw [if_pos rfl,if_pos (by simpa using hq)]
     simp
    ·rw [if_neg e2]
     simp [Ne.symm e2]
   ·rw [if_neg (by omega),List.getElem?_eq_none (by simp;omega),List.getElem?_eq_none (by simp;omega)]
  ·rw [if_neg e]
   simp [Ne.symm e]
 ·rw [if_neg (by omega),List.getElem?_eq_none (by simp;omega),List.getElem?_eq_none (by simp;omega)]
theorem grid_len (hz:zs.map (·.1)=grid c Wn Dn):zs.length=Dn:=by
 have:=congrArg List.length hz
 unfold grid at this
 simpa using this
end
theorem foldl_step {α:Type} {l:List α} {j:Nat} {i:α} {β:Type} (f:β→α→β) (b:β) (h:l[j]? = some i):(l.take (j + 1)).foldl f b=f ((l.take j).foldl f b) i:=by
 rw [List.take_add_one,h,List.foldl_append];rfl
end Go.Proofs.YtioijfplbgpjpaaGreat
namespace Go.Proofs.YtioijfplbgpjpaaGreat
set_option linter.unusedVariables false
set_option linter.unusedSimpArgs false
set_option maxRecDepth 100000
open Go.RowKit
theorem info_rows:(Tryz.prog.info? 63).map (fun i=>(i.zero,i.size,i.bytes))=some (some (.slice none 0 0),1,24):=by kernel_rfl
theorem one_Row:∀ (y:List Int×Nat),∀ u∈hdB y,u.oneCell'=true:=fun y u hu=>by simp [hdB] at hu;subst hu;rfl
theorem wapp_Row {o:Oper} {a:Act} {K:Act→World→Prop} {Q:Exit→Act→World→Prop} {w:World} (s x:Operand)
  (ho:o.op=.call { callee:=.builtin .append,args:=#[s,x],argTypes:=#[127,127] }) {base bd B:Nat} {v:Value} {xs ys:List (List Int×Nat)} {fp:List Nat} {A:Option Addr} {m c:Nat} (hs:a.eval s=v)
  (hx:a.eval x=.slice A m c) (hr:RL bd 1 (flat hdB) w B (.slice A m c) ys) (hown:OF hdB 63 1 w base v xs fp) (hl:xs.length + ys.length≤33554432) (hbase:base≤w.heap.size)
  (h:∀ v' w',AppOF hdB 63 1 w base (xs ++ ys) fp v' w'→K (a.put o.dst v') w'):o.wp Tryz.prog a w K Q:=by
 obtain ⟨i0,hi,hz0,hz1,hz2⟩:=info_parts info_rows
 have hm:=hr.len_cap.1
 exact wp_appAll w s x 127 ho base 63 i0 _ 1 24 Tryz.underlying127 hi hz0 hz1 hz2 rfl (by omega) v _ _ hs hown.1 bd B hdB A m c ys hx hr hm (fun _=>rfl) one_Row (by unfold maxLen;omega) (by omega) hbase
  (fun v' w' h1 h2 h3=>h v' w' (OF.app_of_row (by rw [List.flatMap_append];exact h1) (by rw [List.length_append,hm]) h2 h3 hown.2))
theorem pappAll_Row {ops:Array Oper} {rest:List Oper} {o:Oper} {a:Act} {Q:Exit→Act→World→Prop} {w:World} (s x:Operand) (hgd:o.guard=none)
  (ho:o.op=.call { callee:=.builtin .append,args:=#[s,x],argTypes:=#[127,127] }) {base bd B:Nat} {v:Value} {xs ys:List (List Int×Nat)} {fp:List Nat} {A:Option Addr} {m c:Nat} (hs:a.eval s=v)
  (hx:a.eval x=.slice A m c) (hr:RL bd 1 (flat hdB) w B (.slice A m c) ys) (hown:OF hdB 63 1 w base v xs fp) (hl:xs.length + ys.length≤33554432) (hbase:base≤w.heap.size)
  (h:∀ v' w',AppOF hdB 63 1 w base (xs ++ ys) fp v' w'→wpList Tryz.prog ops Q rest (a.put o.dst v') w'):wpList Tryz.prog ops Q (o::rest) a w :=
 wpList_plain hgd fun _ hK=>wapp_Row s x ho hs hx hr hown hl hbase fun v' w' ha=>hK _ _ (h v' w' ha)
theorem papp_Row {ops:Array Oper} {rest:List Oper} {o:Oper} {a:Act} {Q:Exit→Act→World→Prop} {w:World} (s x:Operand) (hgd:o.guard=none)
  (ho:o.op=.call { callee:=.builtin .append,args:=#[s,x],argTypes:=#[127,127] }) {base:Nat} {v:Value} {xs:List (List Int×Nat)} {fp:List Nat} (y:(List Int×Nat)) {news:Array Value} {N:Nat} (hs:a.eval s=v)
  (hx:a.eval x=.slice (some ⟨N,0,none⟩) 1 1) (hN:w.heap[N]? = some (.cells news 63 (0,0))) (hy:news=(hdB y).toArray) (hown:OF hdB 63 1 w base v xs fp) (hl:xs.length < 16777216) (hbase:base≤w.heap.size)
  (h:∀ v' w',AppOF hdB 63 1 w base (xs ++ [y]) fp v' w'→wpList Tryz.prog ops Q rest (a.put o.dst v') w'):wpList Tryz.prog ops Q (o::rest) a w :=
 pappAll_Row s x hgd ho hs hx (RL_one1 hN hy rfl (Nat.lt_succ_self N)) hown (by simp;omega) hbase h
end Go.Proofs.YtioijfplbgpjpaaGreat
namespace Go.Proofs.YtioijfplbgpjpaaGreat
set_option linter.unusedVariables false
set_option linter.unusedSimpArgs false
set_option maxRecDepth 100000
open Go.RowKit Go.WideShapes Go.ChangeShapes Go.ChangeAt Go.Deep
def inkC (s:Spot) (b:Box) (g:Int) (c:Nat→Nat→Int) (y a:Int) (q p:Nat):Int:=if (s.x≤q∧q < s.x + b.w)∧(s.y≤p∧p < y) ∨ (s.x≤q∧q < a)∧(p:Int)=y then g else c q p
set_option maxRecDepth 100000 in
set_option maxHeartbeats 8000000 in
theorem iPicture_any (v vx:Value) (r:Request) (x:Plan) (k z:Int) (w:World) (h:RReq 16777216 w w.heap.size v r) (hx:RPlan 16777216 w w.heap.size vx x) (hL:x.bulk≤16777216):Calls Tryz.prog 39 #[v,vx,.int .i64 k,.int .i64 z] w (MOF cS 9 1 w (pictureR r x k z)):=by
 have HR:=Lib.hid h
 have HX:=Lib.hid hx
 obtain ⟨A1,c1,A2,c2,A3,c3,rfl,_⟩:=h.opn
 obtain ⟨PA,ca,PB,cb,rfl,HPA,HPB,hla,hlb⟩:=hx.opn
 have hS:=(((Sit.here w).alloc (cR r A1 c1 A2 c2 A3 c3) 41).alloc #[.slice PA x.cartons.length ca,.slice PB x.spots.length cb] 46).alloc #[.int .i64 r.pallet.w,.int .i64 r.pallet.d,.int .i64 r.pallet.h,.int .i64 r.pallet.gram] 36
 simp only [World.size_alloc] at hS
 have SN:=Lib.hid hS
 obtain ⟨q,hq⟩:∃ q,feasible r x=q:=⟨_,rfl⟩
 have HQ:=Lib.hid hq
 obtain ⟨f1,hf1⟩:∃ f,inB k 0 (wrap64 (palletsR x.spots - 1))=f:=⟨_,rfl⟩
 have HF1:=Lib.hid hf1
 obtain ⟨f2,hf2⟩:∃ f,inB z 0 (wrap64 (r.pallet.h - 1))=f:=⟨_,rfl⟩
 have HF2:=Lib.hid hf2
 have HM:=Lib.hid (show pictureR r x k z=if (q && (decide (r.pallet.w≤40) && (decide (r.pallet.d≤40) && (f1 && f2))))=true then (List.range r.pallet.d.toNat).map (fun y=>byt (rowP r x k z y)) else [] by unfold pictureR drawable;rw [hq,hf1,hf2])
 have HNIL:=Lib.hid (fun (W:World) (l:List Fact) (S:Sit w W l)=>(S.addNil (f:=cS) (e:=9) (K:=1) w.heap.size).mof)
 clear h hx hS hq hf1 hf2
 go_enter Tryz.func39,Tryz.ntmps39
 have k1:=SN.out.box (.tail _ (.head _));have l1:=SN.out.boxlt (.tail _ (.head _));have k0:=SN.out.box (.tail _ (.tail _ (.head _)));have l0:=SN.out.boxlt (.tail _ (.tail _ (.head _)))
 go_wp2_with fail
 refine (iFeasible_any _ _ r x _ (HR.out.next SN.out.low) (HX.out.next SN.out.low) hL).mono ?_
 rintro e1 w1 ⟨rfl,hb1⟩
 rw [HQ.out]
 have SN:=Lib.hid (SN.out.next hb1)
 clear k0 l0 k1 l1 hb1
 cases q
 ·go_wp2
  go_ret
  rw [HM.out]
  exact HNIL.out _ _ SN.out
 have k2:=SN.out.box (.head _);have l2:=SN.out.boxlt (.head _)
 have k1:=SN.out.box (.tail _ (.head _));have l1:=SN.out.boxlt (.tail _ (.head _))
 by_cases hw:40 < r.pallet.w
 ·go_wp2
  go_ret
  rw [HM.out,decide_eq_false (show ¬ r.pallet.w≤40 by omega)]
  exact HNIL.out _ _ SN.out
 by_cases hd:40 < r.pallet.d
 ·go_wp2
  go_ret
  rw [HM.out,decide_eq_false (show ¬ r.pallet.d≤40 by omega)]
  simp only [Bool.false_and,Bool.and_false]
  exact HNIL.out _ _ SN.out
 rw [decide_eq_true (show r.pallet.w≤40 by omega),decide_eq_true (show r.pallet.d≤40 by omega)] at HM
 go_wp2_with fail
 refine (iPallets_any _ x.spots _ (HPB.out.next (flat_mono _) SN.out.low)).mono ?_
 rintro e2 w2 ⟨rfl,hb2⟩
 have SN:=Lib.hid (SN.out.next hb2)
 clear k1 l1 k2 l2 hb2
 have k2:=SN.out.box (.head _);have l2:=SN.out.boxlt (.head _)
 go_wp2_with fail
 (try simp only [wrapE])
 refine (in_any _ _ _ _).mono ?_
 rintro e2 w3 ⟨rfl,rfl⟩
 rw [HF1.out]
 cases f1
 ·go_wp2
  go_ret
  rw [HM.out]
  exact HNIL.out _ _ SN.out
 go_wp2_with fail
 (try simp only [wrapE])
 refine (in_any _ _ _ _).mono ?_
 rintro e2 w3 ⟨rfl,rfl⟩
 rw [HF2.out]
 cases f2
 ·go_wp2
  go_ret
  rw [HM.out]
  exact HNIL.out _ _ SN.out
 have HM:=Lib.hid (show pictureR r x k z=(List.range r.pallet.d.toNat).map (fun y=>byt (rowP r x k z y)) by rw [HM.out];rfl)
 obtain ⟨hpw,hpd,hph⟩:=pal_range HQ.out
 obtain ⟨hfl,h100⟩:=feas_len HQ.out
 have HFL:=Lib.hid hfl
 have HZ:=Lib.hid (show 0≤z∧z≤2000 by
  have h1:=inB_iff.1 HF2.out
  have h2:wrap64 (r.pallet.h - 1)=r.pallet.h - 1:=by unfold wrap64;omega
  omega)
 clear hfl
 obtain ⟨Wn,hW⟩:∃ n:Nat,r.pallet.w=n:=⟨r.pallet.w.toNat,by omega⟩
 obtain ⟨Dn,hD⟩:∃ n:Nat,r.pallet.d=n:=⟨r.pallet.d.toNat,by omega⟩
 have hWn:1≤Wn∧Wn≤40:=by omega
 have hDn:1≤Dn∧Dn≤40:=by omega
 have HM:=Lib.hid (show pictureR r x k z=(List.range Dn).map (fun y=>byt (rowP r x k z y)) by rw [HM.out,hD,Int.toNat_natCast])
 have SN:=Lib.hid ((SN.out.alloc #[] 63).boxNil hdB 1)
 clear k2 l2
 have k2:=SN.out.box (.tail _ (.head _));have l2:=SN.out.boxlt (.tail _ (.head _))
 go_wp2
 clear k2 l2
 go_loopw [10,58] (fun vv i wr=>∃ (y:Nat) (zs:List (List Int×Nat)) (f9:List Nat),y≤Dn∧i=.int .i64 y∧zs.map (·.1)=List.replicate y (List.replicate Wn 46)∧Hid (Sit w wr (fOF hdB 63 1 w.heap.size vv zs f9::fBox (w.heap.size + 1 + 1) #[.int .i64 r.pallet.w,.int .i64 r.pallet.d,.int .i64 r.pallet.h,.int .i64 r.pallet.gram] 36::fBox (w.heap.size + 1) #[.slice PA x.cartons.length ca,.slice PB x.spots.length cb] 46::fBox w.heap.size (cR r A1 c1 A2 c2 A3 c3) 41::zs.map (fRow w.heap.size)))) (fun _ i _=>Dn - (intOf i).toNat)
 case atStart=>exact ⟨0,[],_,Nat.zero_le _,rfl,rfl,SN⟩
 case round =>
  clear SN
  obtain ⟨y,zs,f9,hy,rfl,hzs,SN⟩:=hrel
  have HZS:=Lib.hid hzs
  have hzl:zs.length=y:=by have:=congrArg List.length hzs;simpa using this
  by_cases hlt:y < Dn
  ·have hlti:(y:Int) < r.pallet.d:=by omega
   obtain ⟨i0,hi,hz0,hz1,hz2⟩:=info_parts info_u8
   have k2:=SN.out.box (.tail _ (.head _));have l2:=SN.out.boxlt (.tail _ (.head _))
   clear hzs
   go_wp2_with (at_make;refine wpList_make_full _ rfl _ _ 63 rfl wr.heap.size 5 i0 _ 1 Tryz.underlying63 hi hz0 hz1 _ _ _ _ Wn rfl rfl rfl rfl (by rw [hz2];omega) (by unfold maxLen;omega) (Nat.le_refl _) ?_;intro w4 hown hg)
   have hb4:Below wr.heap.size wr w4:=(Below.refl _ _).grown hg (Nat.le_refl _) (fun k hk=>by cases hk)
   have hO:OF cU 5 1 w4 wr.heap.size (.slice (some ⟨wr.heap.size,0,none⟩) Wn Wn) (List.replicate Wn (0:Int)) [wr.heap.size]:=⟨by rw [List.length_replicate,← made_zero];exact hown,rfl⟩
   have hS:=fOF_low (W':=w4) (SN.out.addOF hb4 hO (Nat.le_refl _)) SN.out.low.size
   have SN:=Lib.hid hS
   obtain ⟨g,hgg⟩:∃ g,wr.heap.size=g:=⟨_,rfl⟩
   rw [hgg] at SN ⊢
   clear hi hz0 hz1 hz2 hg hown hO hb4 k2 l2 hgg hS
   go_wp2
   go_loopw [65] (fun i wr=>∃ (j:Nat),j≤Wn∧i=.int .i64 j∧Hid (Sit w wr (fOF cU 5 1 w.heap.size (.slice (some ⟨g,0,none⟩) Wn Wn) (List.replicate j 46 ++ List.replicate (Wn - j) 0) [g]::fOF hdB 63 1 w.heap.size u10 zs f9::fBox (w.heap.size + 1 + 1) #[.int .i64 r.pallet.w,.int .i64 r.pallet.d,.int .i64 r.pallet.h,.int .i64 r.pallet.gram] 36::fBox (w.heap.size + 1) #[.slice PA x.cartons.length ca,.slice PB x.spots.length cb] 46::fBox w.heap.size (cR r A1 c1 A2 c2 A3 c3) 41::zs.map (fRow w.heap.size)))) (fun i _=>Wn - (intOf i).toNat)
   case atStart=>exact ⟨0,Nat.zero_le _,rfl,SN⟩
   case round =>
    clear SN
    obtain ⟨j,hj,rfl,SN⟩:=hrel
    by_cases hltj:j < Wn
    ·have hfr:=fun o=>(SN.out.list (.head _)).free o
     have hx0:(List.replicate j (46:Int) ++ List.replicate (Wn - j) 0)[j]? = some 0:=by rw [List.getElem?_append_right (by simp),List.length_replicate,Nat.sub_self,List.getElem?_replicate,if_pos (by omega)]
     have hce:=(SN.out.list (.head _)).cells (fun _=>rfl) hx0 0 _ rfl
     rw [Nat.mul_one,Nat.add_zero] at hce
     have hS:=Sit.put (us:=[.int .u8 46]) (j:=0) (y:=46) SN.out (fun _=>rfl) hx0 (by simp) rfl
     have hse:(List.replicate j (46:Int) ++ List.replicate (Wn - j) 0).set j 46=List.replicate (j + 1) 46 ++ List.replicate (Wn - (j + 1)) 0:=by
      rw [List.set_append_right _ _ (by simp),List.length_replicate,Nat.sub_self,show Wn - j=(Wn - (j + 1)) + 1 by omega,List.replicate_succ,List.set_cons_zero,List.replicate_succ',List.append_assoc];rfl
     rw [hse] at hS
     simp only [Nat.mul_one,Nat.add_zero,setW] at hS
     have SF:=Lib.hid hS
     clear hx0 hS hse
     go_wp2
     go_roundw
     case rel=>exact ⟨j + 1,hltj,by go_num,SF⟩
     case measure=>simp [intOf] <;> omega
    ·obtain rfl:j=Wn:=by omega
     rw [Nat.sub_self,List.replicate_zero,List.append_nil] at SN
     have HRE:=Lib.hid (show fRow w.heap.size (List.replicate j (46:Int),g)=fOF cU 5 1 w.heap.size (.slice (some ⟨g,0,none⟩) j j) (List.replicate j 46) [g] by
      show fOF cU 5 1 w.heap.size (.slice (some ⟨g,0,none⟩) (List.replicate j (46:Int)).length (List.replicate j (46:Int)).length) (List.replicate j 46) [g]=_
      rw [List.length_replicate])
     have SM:=Lib.hid SN.out.rot2
     obtain ⟨A9,c9,rfl,_⟩:=(SM.out.list (.head _)).form
     go_wp2_with (at_builtin;refine papp_Row _ _ rfl rfl (List.replicate j 46,g) rfl rfl (alloc_at (by first | rfl | (simp;done) | (simp;omega))) (by simp [hdB]) ((SM.out.list (.head _)).next (by repeat' with_reducible first | assumption | exact bR | apply bD | apply bA | apply bC | apply bN | simp <;> omega)) (by omega) (by have:=SM.out.low.size;simp;omega) ?_;intro v7 w7 ha;obtain ⟨g7,S7⟩:=(SM.out.next (by repeat' with_reducible first | assumption | exact bR | apply bD | apply bA | apply bC | apply bN | simp <;> omega)).app ha)
     have S8:=Lib.hid (Sit.rowAdd (z:=(List.replicate j 46,g)) [fOF hdB 63 1 w.heap.size v7 _ g7,fBox (w.heap.size + 1 + 1) #[.int .i64 r.pallet.w,.int .i64 r.pallet.d,.int .i64 r.pallet.h,.int .i64 r.pallet.gram] 36,fBox (w.heap.size + 1) #[.slice PA x.cartons.length ca,.slice PB x.spots.length cb] 46,fBox w.heap.size (cR r A1 c1 A2 c2 A3 c3) 41] (by rw [HRE.out];exact S7.rot2))
     clear S7 ha
     go_roundw
     case rel=>exact ⟨y + 1,zs ++ [(List.replicate j 46,g)],g7,hlt,by go_num,by rw [List.map_append,HZS.out,List.replicate_succ'];rfl,S8⟩
     case measure=>simp [intOf] <;> omega
  ·obtain rfl:y=Dn:=by omega
   have HG:=Lib.hid (show zs.map (·.1)=grid (fun _ _=>46) Wn y by
    rw [hzs];unfold grid
    refine List.ext_getElem? fun i=>?_
    rw [List.getElem?_replicate,List.getElem?_map]
    by_cases hi:i < y
    ·rw [if_pos hi,List.getElem?_range hi]
     simp only [Option.map_some]
     congr 1
     refine List.ext_getElem? fun a=>?_
     rw [List.getElem?_replicate,List.getElem?_map]
     by_cases ha:a < Wn
     ·rw [if_pos ha,List.getElem?_range ha];rfl
     ·rw [if_neg ha,List.getElem?_eq_none (by simp;omega)];rfl
    ·rw [if_neg hi,List.getElem?_eq_none (by simp;omega)];rfl)
   clear hzs HZS
   have k1:=SN.out.box (g:=w.heap.size + 1) (cs:=#[.slice PA x.cartons.length ca,.slice PB x.spots.length cb]) (t:=46) (.tail _ (.tail _ (.head _)))
   have l1:=SN.out.boxlt (g:=w.heap.size + 1) (cs:=#[.slice PA x.cartons.length ca,.slice PB x.spots.length cb]) (t:=46) (.tail _ (.tail _ (.head _)))
   have k0:=SN.out.box (g:=w.heap.size) (cs:=(cR r A1 c1 A2 c2 A3 c3)) (t:=41) (.tail _ (.tail _ (.tail _ (.head _))))
   have l0:=SN.out.boxlt (g:=w.heap.size) (cs:=(cR r A1 c1 A2 c2 A3 c3)) (t:=41) (.tail _ (.tail _ (.tail _ (.head _))))
   have HWD:=Lib.hid (And.intro hW hD)
   clear hW hD
   go_wp2_with fail
   refine (iatHeight_any _ _ r x k z _ (HR.out.next SN.out.low) (HX.out.next SN.out.low)).mono ?_
   intro e5 w5 hm
   obtain ⟨v5,fk,rfl,hS⟩:=SN.out.gotInts hm
   obtain ⟨D,d,rfl,_⟩:=(hS.list (.head _)).form
   have SN:=Lib.hid hS.rot2
   obtain ⟨LH,hLH⟩:∃ L,atHeight r x k z=L:=⟨_,rfl⟩
   have HLH:=Lib.hid hLH
   have hll:LH.length≤x.cartons.length:=by rw [← hLH];exact atHeight_le r x k z
   rw [hLH] at SN ⊢
   clear k1 l1 k0 l0 hS hm hLH
   obtain ⟨gr,hgr⟩:∃ g c,u10=.slice (some ⟨g,0,none⟩) zs.length c:=by
    obtain ⟨A,c,e,_⟩:=(SN.out.list (.head _)).form
    obtain ⟨zr,hzr⟩:∃ zr,zs[0]? = some zr:=⟨_,List.getElem?_eq_getElem (by omega)⟩
    subst e
    obtain ⟨g,rfl⟩:=head_ptr (SN.out.list (.head _)) hzr
    exact ⟨g,c,rfl⟩
   obtain ⟨c9,rfl⟩:=hgr
   rw [hzl] at SN ⊢
   clear hzl
   go_wp2
   go_loopw [83] (fun i wr=>∃ (j:Nat) (zs:List (List Int×Nat)),j≤LH.length∧i=.int .i64 j∧Hid (zs.map (·.1)=grid (fun q p=>(LH.take j).foldl (pixStep r x q p) 46) Wn y)∧Hid (Sit w wr (fOF hdB 63 1 w.heap.size (.slice (some ⟨gr,0,none⟩) y c9) zs f9::fOF cI 3 1 w.heap.size (.slice D LH.length d) (LH) fk::fBox (w.heap.size + 1 + 1) #[.int .i64 r.pallet.w,.int .i64 r.pallet.d,.int .i64 r.pallet.h,.int .i64 r.pallet.gram] 36::fBox (w.heap.size + 1) #[.slice PA x.cartons.length ca,.slice PB x.spots.length cb] 46::fBox w.heap.size (cR r A1 c1 A2 c2 A3 c3) 41::zs.map (fRow w.heap.size)))) (fun i _=>LH.length - (intOf i).toNat)
   case atStart=>exact ⟨0,zs,Nat.zero_le _,rfl,HG,SN⟩
   case round =>
    clear SN HG
    obtain ⟨j,zs,hj,rfl,HG,SN⟩:=hrel
    by_cases hltj:j < LH.length
    ·obtain ⟨i,hi⟩:∃ i,LH[j]? = some i:=⟨_,List.getElem?_eq_getElem hltj⟩
     obtain ⟨m,rfl,hm1,hm2⟩:=atHeight_in (by rw [HLH.out];exact hi)
     have HST:=Lib.hid (fun q p:Nat=>foldl_step (pixStep r x q p) (46:Int) hi)
     obtain ⟨gd,rfl⟩:=head_ptr (SN.out.list (.tail _ (.head _))) hi
     have hcu:=(SN.out.list (.tail _ (.head _))).cells (fun z=>rfl) hi 0 (.int .i64 (m:Int)) rfl
     rw [Nat.mul_one,Nat.add_zero] at hcu
     obtain ⟨b,off,c,U,cu,rfl,hb,hc,HU,HC⟩:=HPA.out.one m hm1
     obtain ⟨b2,off2,s,rfl,hb2,hs,HC2⟩:=HPB.out.one m hm2
     obtain ⟨bx,hbx⟩:∃ bx,boxR r c=bx:=⟨_,rfl⟩
     have HBX:=Lib.hid hbx
     have HSA:=Lib.hid (spotAt_at hs)
     have HBA:=Lib.hid (show boxAt r x (m:Int)=bx by rw [boxAt_nat hc,hbx])
     have hin:=within_facts (feas_inside HQ.out hm1)
     rw [HSA.out,HBA.out] at hin
     have HIN:=Lib.hid hin
     have HCC:=Lib.hid (show ∀ X:World,Below wr.heap.size wr X→(cS10 (X) (w.heap.size) (r) (.slice A1 r.pairs.length c1) (.slice A2 r.types.length c2) (.slice A3 r.items.length c3))∧(X.cell? ⟨w.heap.size + 1,0,none⟩=some (.slice (some ⟨b,off,none⟩) x.cartons.length ca)∧X.cell? ⟨w.heap.size + 1,1,none⟩=some (.slice (some ⟨b2,off2,none⟩) x.spots.length cb))∧(cC3 (X) (b) (off) (m) (c) (.slice U c.units.length cu))∧cS4 (X) (b2) (off2) (m) (s) from fun X hX=>by
      have hX:=SN.out.next hX
      have c0:=hX.box (.tail _ (.tail _ (.tail _ (.tail _ (.head _)))))
      exact ⟨⟨c0 0,c0 1,c0 2,c0 3,c0 4,c0 5,c0 6,c0 7,c0 8,c0 9⟩,⟨hX.box (.tail _ (.tail _ (.tail _ (.head _)))) 0,hX.box (.tail _ (.tail _ (.tail _ (.head _)))) 1⟩,HC.out X hX.low,HC2.out X hX.low⟩)
     clear hi hc hs hbx hin
     obtain ⟨L0,hL0⟩:∃ L,(fOF hdB 63 1 w.heap.size (.slice (some ⟨gr,0,none⟩) y c9) zs f9::fOF cI 3 1 w.heap.size (.slice (some ⟨gd,0,none⟩) LH.length d) (LH) fk::fBox (w.heap.size + 1 + 1) #[.int .i64 r.pallet.w,.int .i64 r.pallet.d,.int .i64 r.pallet.h,.int .i64 r.pallet.gram] 36::fBox (w.heap.size + 1) #[.slice (some ⟨b,off,none⟩) x.cartons.length ca,.slice (some ⟨b2,off2,none⟩) x.spots.length cb] 46::fBox w.heap.size (cR r A1 c1 A2 c2 A3 c3) 41::zs.map (fRow w.heap.size))=L:=⟨_,rfl⟩
     have SM:=Lib.hid (show Sit w wr L0 by rw [← hL0];exact SN.out)
     clear SN
     have SN:=SM
     clear SM
     go_upto_region 18 with fail
     clear hcu
     go_cut [15,16] (fun v7 v8 X=>∃ g7 g8,v7=.pointer (some ⟨g7,0,none⟩)∧v8=.pointer (some ⟨g8,0,none⟩)∧Hid (Sit w X (fBox g7 #[.int .i64 bx.w,.int .i64 bx.d,.int .i64 bx.h,.int .i64 bx.gram] 75::fBox g8 #[.int .i64 s.pallet,.int .i64 s.x,.int .i64 s.y,.int .i64 s.z] 72::L0)))
     case first =>
      clear hL0 HPA HPB HX HF1 HF2 HM HQ HBA HSA HC HC2 hla hlb hL HIN HST HG HLH HNIL HFL HZ hll h100
      refine regu (S:=(fun W'=>((cS10 (W') (w.heap.size) (r) (.slice A1 r.pairs.length c1) (.slice A2 r.types.length c2) (.slice A3 r.items.length c3)))∧(W'.cell? ⟨w.heap.size + 1,0,none⟩=some (.slice (some ⟨b,off,none⟩) x.cartons.length ca)∧W'.cell? ⟨w.heap.size + 1,1,none⟩=some (.slice (some ⟨b2,off2,none⟩) x.spots.length cb))∧(cC3 (W') (b) (off) (m) (c) (.slice U c.units.length cu))∧cS4 (W') (b2) (off2) (m) (s))) (by kernel_rfl) (fun _ _ _ _ _=>id) ?_ fun hHeld=>?_
      ·(first | (refine HCC.out _ ?_;(repeat' with_reducible first | assumption | exact bR | apply bD | apply bA | apply bC | apply bW | omega | simp <;> omega);done) | go_keep)
      have SN:=Lib.hid SN.out.drew
      refine tku (b:=?_) [0,1,2,3,4,5,7,8,9,10,11] (by kernel_rfl) hHeld ?_ ?_
      rotate_left
      ·repeat first
       |exact .nil
       |refine .yes (v:=?_) rfl (by rfl) ?_ ?_
        rotate_left
        ·intro w9 hSw;(try dsimp only at hSw);go_simp;(try with_reducible rfl)
        (try simp only [aP,aZ,aS,aG,aH,aI])
      refine smu [6,12,13] (by kernel_rfl) ?_
      refine .cons rfl (by kernel_rfl) (fun K hK=>?_) ?_
      ·go_simp
       ((go_at_call 53;refine (iBoxOf_any _ _ r c _ (HR.out.next SN.out.low) (HU.out.next (flat_mono _) SN.out.low)).mono ?_;rintro e w2 ⟨rfl,hb2⟩;rw [HBX.out];have hn2:=bstep (a:=wr) (by (repeat' with_reducible first | assumption | exact bR | apply bD | apply bA | apply bC | apply bW | omega | simp <;> omega)) hb2;have SN:=Lib.hid (SN.out.next hb2);(try (have hg7:=SN.out.on (fBox _ #[.int .i64 0,.int .i64 0,.int .i64 0,.int .i64 0] 75) (by first | exact .head _ | exact .tail _ (.head _));have hgc7:=fun j=>cell_of_row _ _ j _ _ (0,0) hg7;have hgf7:=fun j=>frozen_of_row _ _ j _ _ hg7;have hgl7:=lt_of_block hg7;(try simp only [World.size_alloc,World.size_drew] at hg7 hgc7 hgf7 hgl7)));(try (have hg8:=SN.out.on (fBox _ #[.int .i64 0,.int .i64 0,.int .i64 0,.int .i64 0] 72) (by first | exact .head _ | exact .tail _ (.head _));have hgc8:=fun j=>cell_of_row _ _ j _ _ (0,0) hg8;have hgf8:=fun j=>frozen_of_row _ _ j _ _ hg8;have hgl8:=lt_of_block hg8;(try simp only [World.size_alloc,World.size_drew] at hg8 hgc8 hgf8 hgl8)))))
       refine hK.out _ _ ?_ (fun hHeld=>?_)
       ·(first | (refine HCC.out _ ?_;(repeat' with_reducible first | assumption | exact bR | apply bD | apply bA | apply bC | apply bW | omega | simp <;> omega);done) | go_keep)
       clear hK K
       (try simp only [aP,aZ,aS,aG,aH,aI])
       refine smu [12,13] (by kernel_rfl) ?_
       refine .cons rfl (by kernel_rfl) (fun K hK=>?_) ?_
       ·go_simp
        (have SN:=Lib.hid (SN.out.alloc #[.int .i64 0,.int .i64 0,.int .i64 0,.int .i64 0] 75))
        refine hK.out _ _ ?_ (fun hHeld=>?_)
        ·(first | (refine HCC.out _ ?_;(repeat' with_reducible first | assumption | exact bR | apply bD | apply bA | apply bC | apply bW | omega | simp <;> omega);done) | go_keep)
        clear hK K
        (try simp only [aP,aZ,aS,aG,aH,aI])
        refine onu 13 rfl (by kernel_rfl) fun K hK=>?_
        go_simp
        (have SN:=Lib.hid (SN.out.alloc #[.int .i64 0,.int .i64 0,.int .i64 0,.int .i64 0] 72))
        refine hK.out _ _ ?_ (fun hHeld=>?_)
        ·(first | (refine HCC.out _ ?_;(repeat' with_reducible first | assumption | exact bR | apply bD | apply bA | apply bC | apply bW | omega | simp <;> omega);done) | go_keep)
        clear hK K
        (try simp only [aP,aZ,aS,aG,aH,aI])
        refine onu 14 rfl (by kernel_rfl) fun K hK=>?_
        go_simp
        (have SN:=Lib.hid (Sit.overL (t:=75) (cs:=[.int .i64 0,.int .i64 0,.int .i64 0,.int .i64 0]) [.int .i64 bx.w,.int .i64 bx.d,.int .i64 bx.h,.int .i64 bx.gram] 0 (by first | exact SN.out | exact SN.out.rot2)))
        refine hK.out _ _ ?_ (fun hHeld=>?_)
        ·(first | (refine HCC.out _ ?_;(repeat' with_reducible first | assumption | exact bR | apply bD | apply bA | apply bC | apply bW | omega | simp <;> omega);done) | go_keep)
        clear hK K
        (try simp only [aP,aZ,aS,aG,aH,aI])
        refine lsu 15 rfl (by kernel_rfl) fun K hK=>?_
        go_simp
        (have SN:=Lib.hid (Sit.overL (t:=72) (cs:=[.int .i64 0,.int .i64 0,.int .i64 0,.int .i64 0]) [.int .i64 s.pallet,.int .i64 s.x,.int .i64 s.y,.int .i64 s.z] 0 (by first | exact SN.out | exact SN.out.rot2)))
        refine hK.out _ _ ?_
        clear hK K
        (try simp only [aP,aZ,aS,aG,aH,aI])
        go_wp2_with fail
        go_meet
        refine ⟨_,_,rfl,rfl,?_⟩
        (have HSN:=SN.out.rot2;clear HCC HR HU HBX SN hn2;(first | simp [setW,setL,World.setCell_alloc_at,World.setCell_alloc_past,World.size_alloc,hgl7,hgl8] at HSN | simp [setW,setL,World.setCell_alloc_at,World.setCell_alloc_past,World.size_alloc,hgl7] at HSN | simp [setW,setL,World.setCell_alloc_at,World.setCell_alloc_past,World.size_alloc,hgl8] at HSN | simp [setW,setL,World.setCell_alloc_at,World.setCell_alloc_past,World.size_alloc] at HSN);refine Lib.hid ?_;with_reducible exact HSN)
       refine .cons rfl (by kernel_rfl) (fun K hK=>?_) ?_
       ·go_simp
        (have SN:=Lib.hid (SN.out.alloc #[.int .i64 0,.int .i64 0,.int .i64 0,.int .i64 0] 72))
        refine hK.out _ _ ?_ (fun hHeld=>?_)
        ·(first | (refine HCC.out _ ?_;(repeat' with_reducible first | assumption | exact bR | apply bD | apply bA | apply bC | apply bW | omega | simp <;> omega);done) | go_keep)
        clear hK K
        (try simp only [aP,aZ,aS,aG,aH,aI])
        refine onu 12 rfl (by kernel_rfl) fun K hK=>?_
        go_simp
        (have SN:=Lib.hid (SN.out.alloc #[.int .i64 0,.int .i64 0,.int .i64 0,.int .i64 0] 75))
        refine hK.out _ _ ?_ (fun hHeld=>?_)
        ·(first | (refine HCC.out _ ?_;(repeat' with_reducible first | assumption | exact bR | apply bD | apply bA | apply bC | apply bW | omega | simp <;> omega);done) | go_keep)
        clear hK K
        (try simp only [aP,aZ,aS,aG,aH,aI])
        refine onu 14 rfl (by kernel_rfl) fun K hK=>?_
        go_simp
        (have SN:=Lib.hid (Sit.overL (t:=75) (cs:=[.int .i64 0,.int .i64 0,.int .i64 0,.int .i64 0]) [.int .i64 bx.w,.int .i64 bx.d,.int .i64 bx.h,.int .i64 bx.gram] 0 (by first | exact SN.out | exact SN.out.rot2)))
        refine hK.out _ _ ?_ (fun hHeld=>?_)
        ·(first | (refine HCC.out _ ?_;(repeat' with_reducible first | assumption | exact bR | apply bD | apply bA | apply bC | apply bW | omega | simp <;> omega);done) | go_keep)
        clear hK K
        (try simp only [aP,aZ,aS,aG,aH,aI])
        refine lsu 15 rfl (by kernel_rfl) fun K hK=>?_
        go_simp
        (have SN:=Lib.hid (Sit.overL (t:=72) (cs:=[.int .i64 0,.int .i64 0,.int .i64 0,.int .i64 0]) [.int .i64 s.pallet,.int .i64 s.x,.int .i64 s.y,.int .i64 s.z] 0 (by first | exact SN.out | exact SN.out.rot2)))
        refine hK.out _ _ ?_
        clear hK K
        (try simp only [aP,aZ,aS,aG,aH,aI])
        go_wp2_with fail
        go_meet
        refine ⟨_,_,rfl,rfl,?_⟩
        (have HSN:=SN.out.rot2;clear HCC HR HU HBX SN hn2;(first | simp [setW,setL,World.setCell_alloc_at,World.setCell_alloc_past,World.size_alloc,hgl7,hgl8] at HSN | simp [setW,setL,World.setCell_alloc_at,World.setCell_alloc_past,World.size_alloc,hgl7] at HSN | simp [setW,setL,World.setCell_alloc_at,World.setCell_alloc_past,World.size_alloc,hgl8] at HSN | simp [setW,setL,World.setCell_alloc_at,World.setCell_alloc_past,World.size_alloc] at HSN);refine Lib.hid ?_;with_reducible exact HSN)
       exact .nil
      refine .cons rfl (by kernel_rfl) (fun K hK=>?_) ?_
      ·go_simp
       (have SN:=Lib.hid (SN.out.alloc #[.int .i64 0,.int .i64 0,.int .i64 0,.int .i64 0] 75))
       refine hK.out _ _ ?_ (fun hHeld=>?_)
       ·(first | (refine HCC.out _ ?_;(repeat' with_reducible first | assumption | exact bR | apply bD | apply bA | apply bC | apply bW | omega | simp <;> omega);done) | go_keep)
       clear hK K
       (try simp only [aP,aZ,aS,aG,aH,aI])
       refine smu [6,13] (by kernel_rfl) ?_
       refine .cons rfl (by kernel_rfl) (fun K hK=>?_) ?_
       ·go_simp
        ((go_at_call 53;refine (iBoxOf_any _ _ r c _ (HR.out.next SN.out.low) (HU.out.next (flat_mono _) SN.out.low)).mono ?_;rintro e w2 ⟨rfl,hb2⟩;rw [HBX.out];have hn2:=bstep (a:=wr) (by (repeat' with_reducible first | assumption | exact bR | apply bD | apply bA | apply bC | apply bW | omega | simp <;> omega)) hb2;have SN:=Lib.hid (SN.out.next hb2);(try (have hg7:=SN.out.on (fBox _ #[.int .i64 0,.int .i64 0,.int .i64 0,.int .i64 0] 75) (by first | exact .head _ | exact .tail _ (.head _));have hgc7:=fun j=>cell_of_row _ _ j _ _ (0,0) hg7;have hgf7:=fun j=>frozen_of_row _ _ j _ _ hg7;have hgl7:=lt_of_block hg7;(try simp only [World.size_alloc,World.size_drew] at hg7 hgc7 hgf7 hgl7)));(try (have hg8:=SN.out.on (fBox _ #[.int .i64 0,.int .i64 0,.int .i64 0,.int .i64 0] 72) (by first | exact .head _ | exact .tail _ (.head _));have hgc8:=fun j=>cell_of_row _ _ j _ _ (0,0) hg8;have hgf8:=fun j=>frozen_of_row _ _ j _ _ hg8;have hgl8:=lt_of_block hg8;(try simp only [World.size_alloc,World.size_drew] at hg8 hgc8 hgf8 hgl8)))))
        refine hK.out _ _ ?_ (fun hHeld=>?_)
        ·(first | (refine HCC.out _ ?_;(repeat' with_reducible first | assumption | exact bR | apply bD | apply bA | apply bC | apply bW | omega | simp <;> omega);done) | go_keep)
        clear hK K
        (try simp only [aP,aZ,aS,aG,aH,aI])
        refine onu 13 rfl (by kernel_rfl) fun K hK=>?_
        go_simp
        (have SN:=Lib.hid (SN.out.alloc #[.int .i64 0,.int .i64 0,.int .i64 0,.int .i64 0] 72))
        refine hK.out _ _ ?_ (fun hHeld=>?_)
        ·(first | (refine HCC.out _ ?_;(repeat' with_reducible first | assumption | exact bR | apply bD | apply bA | apply bC | apply bW | omega | simp <;> omega);done) | go_keep)
        clear hK K
        (try simp only [aP,aZ,aS,aG,aH,aI])
        refine onu 14 rfl (by kernel_rfl) fun K hK=>?_
        go_simp
        (have SN:=Lib.hid (Sit.overL (t:=75) (cs:=[.int .i64 0,.int .i64 0,.int .i64 0,.int .i64 0]) [.int .i64 bx.w,.int .i64 bx.d,.int .i64 bx.h,.int .i64 bx.gram] 0 (by first | exact SN.out | exact SN.out.rot2)))
        refine hK.out _ _ ?_ (fun hHeld=>?_)
        ·(first | (refine HCC.out _ ?_;(repeat' with_reducible first | assumption | exact bR | apply bD | apply bA | apply bC | apply bW | omega | simp <;> omega);done) | go_keep)
        clear hK K
        (try simp only [aP,aZ,aS,aG,aH,aI])
        refine lsu 15 rfl (by kernel_rfl) fun K hK=>?_
        go_simp
        (have SN:=Lib.hid (Sit.overL (t:=72) (cs:=[.int .i64 0,.int .i64 0,.int .i64 0,.int .i64 0]) [.int .i64 s.pallet,.int .i64 s.x,.int .i64 s.y,.int .i64 s.z] 0 (by first | exact SN.out | exact SN.out.rot2)))
        refine hK.out _ _ ?_
        clear hK K
        (try simp only [aP,aZ,aS,aG,aH,aI])
        go_wp2_with fail
        go_meet
        refine ⟨_,_,rfl,rfl,?_⟩
        (have HSN:=SN.out.rot2;clear HCC HR HU HBX SN hn2;(first | simp [setW,setL,World.setCell_alloc_at,World.setCell_alloc_past,World.size_alloc,hgl7,hgl8] at HSN | simp [setW,setL,World.setCell_alloc_at,World.setCell_alloc_past,World.size_alloc,hgl7] at HSN | simp [setW,setL,World.setCell_alloc_at,World.setCell_alloc_past,World.size_alloc,hgl8] at HSN | simp [setW,setL,World.setCell_alloc_at,World.setCell_alloc_past,World.size_alloc] at HSN);refine Lib.hid ?_;with_reducible exact HSN)
       refine .cons rfl (by kernel_rfl) (fun K hK=>?_) ?_
       ·go_simp
        (have SN:=Lib.hid (SN.out.alloc #[.int .i64 0,.int .i64 0,.int .i64 0,.int .i64 0] 72))
        refine hK.out _ _ ?_ (fun hHeld=>?_)
        ·(first | (refine HCC.out _ ?_;(repeat' with_reducible first | assumption | exact bR | apply bD | apply bA | apply bC | apply bW | omega | simp <;> omega);done) | go_keep)
        clear hK K
        (try simp only [aP,aZ,aS,aG,aH,aI])
        refine onu 6 rfl (by kernel_rfl) fun K hK=>?_
        go_simp
        ((go_at_call 53;refine (iBoxOf_any _ _ r c _ (HR.out.next SN.out.low) (HU.out.next (flat_mono _) SN.out.low)).mono ?_;rintro e w2 ⟨rfl,hb2⟩;rw [HBX.out];have hn2:=bstep (a:=wr) (by (repeat' with_reducible first | assumption | exact bR | apply bD | apply bA | apply bC | apply bW | omega | simp <;> omega)) hb2;have SN:=Lib.hid (SN.out.next hb2);(try (have hg7:=SN.out.on (fBox _ #[.int .i64 0,.int .i64 0,.int .i64 0,.int .i64 0] 75) (by first | exact .head _ | exact .tail _ (.head _));have hgc7:=fun j=>cell_of_row _ _ j _ _ (0,0) hg7;have hgf7:=fun j=>frozen_of_row _ _ j _ _ hg7;have hgl7:=lt_of_block hg7;(try simp only [World.size_alloc,World.size_drew] at hg7 hgc7 hgf7 hgl7)));(try (have hg8:=SN.out.on (fBox _ #[.int .i64 0,.int .i64 0,.int .i64 0,.int .i64 0] 72) (by first | exact .head _ | exact .tail _ (.head _));have hgc8:=fun j=>cell_of_row _ _ j _ _ (0,0) hg8;have hgf8:=fun j=>frozen_of_row _ _ j _ _ hg8;have hgl8:=lt_of_block hg8;(try simp only [World.size_alloc,World.size_drew] at hg8 hgc8 hgf8 hgl8)))))
        refine hK.out _ _ ?_ (fun hHeld=>?_)
        ·(first | (refine HCC.out _ ?_;(repeat' with_reducible first | assumption | exact bR | apply bD | apply bA | apply bC | apply bW | omega | simp <;> omega);done) | go_keep)
        clear hK K
        (try simp only [aP,aZ,aS,aG,aH,aI])
        refine onu 14 rfl (by kernel_rfl) fun K hK=>?_
        go_simp
        (have SN:=Lib.hid (Sit.overL (t:=75) (cs:=[.int .i64 0,.int .i64 0,.int .i64 0,.int .i64 0]) [.int .i64 bx.w,.int .i64 bx.d,.int .i64 bx.h,.int .i64 bx.gram] 0 (by first | exact SN.out | exact SN.out.rot2)))
        refine hK.out _ _ ?_ (fun hHeld=>?_)
        ·(first | (refine HCC.out _ ?_;(repeat' with_reducible first | assumption | exact bR | apply bD | apply bA | apply bC | apply bW | omega | simp <;> omega);done) | go_keep)
        clear hK K
        (try simp only [aP,aZ,aS,aG,aH,aI])
        refine lsu 15 rfl (by kernel_rfl) fun K hK=>?_
        go_simp
        (have SN:=Lib.hid (Sit.overL (t:=72) (cs:=[.int .i64 0,.int .i64 0,.int .i64 0,.int .i64 0]) [.int .i64 s.pallet,.int .i64 s.x,.int .i64 s.y,.int .i64 s.z] 0 (by first | exact SN.out | exact SN.out.rot2)))
        refine hK.out _ _ ?_
        clear hK K
        (try simp only [aP,aZ,aS,aG,aH,aI])
        go_wp2_with fail
        go_meet
        refine ⟨_,_,rfl,rfl,?_⟩
        (have HSN:=SN.out.rot2;clear HCC HR HU HBX SN hn2;(first | simp [setW,setL,World.setCell_alloc_at,World.setCell_alloc_past,World.size_alloc,hgl7,hgl8] at HSN | simp [setW,setL,World.setCell_alloc_at,World.setCell_alloc_past,World.size_alloc,hgl7] at HSN | simp [setW,setL,World.setCell_alloc_at,World.setCell_alloc_past,World.size_alloc,hgl8] at HSN | simp [setW,setL,World.setCell_alloc_at,World.setCell_alloc_past,World.size_alloc] at HSN);refine Lib.hid ?_;with_reducible exact HSN)
       exact .nil
      refine .cons rfl (by kernel_rfl) (fun K hK=>?_) ?_
      ·go_simp
       (have SN:=Lib.hid (SN.out.alloc #[.int .i64 0,.int .i64 0,.int .i64 0,.int .i64 0] 72))
       refine hK.out _ _ ?_ (fun hHeld=>?_)
       ·(first | (refine HCC.out _ ?_;(repeat' with_reducible first | assumption | exact bR | apply bD | apply bA | apply bC | apply bW | omega | simp <;> omega);done) | go_keep)
       clear hK K
       (try simp only [aP,aZ,aS,aG,aH,aI])
       refine smu [6,12] (by kernel_rfl) ?_
       refine .cons rfl (by kernel_rfl) (fun K hK=>?_) ?_
       ·go_simp
        ((go_at_call 53;refine (iBoxOf_any _ _ r c _ (HR.out.next SN.out.low) (HU.out.next (flat_mono _) SN.out.low)).mono ?_;rintro e w2 ⟨rfl,hb2⟩;rw [HBX.out];have hn2:=bstep (a:=wr) (by (repeat' with_reducible first | assumption | exact bR | apply bD | apply bA | apply bC | apply bW | omega | simp <;> omega)) hb2;have SN:=Lib.hid (SN.out.next hb2);(try (have hg7:=SN.out.on (fBox _ #[.int .i64 0,.int .i64 0,.int .i64 0,.int .i64 0] 75) (by first | exact .head _ | exact .tail _ (.head _));have hgc7:=fun j=>cell_of_row _ _ j _ _ (0,0) hg7;have hgf7:=fun j=>frozen_of_row _ _ j _ _ hg7;have hgl7:=lt_of_block hg7;(try simp only [World.size_alloc,World.size_drew] at hg7 hgc7 hgf7 hgl7)));(try (have hg8:=SN.out.on (fBox _ #[.int .i64 0,.int .i64 0,.int .i64 0,.int .i64 0] 72) (by first | exact .head _ | exact .tail _ (.head _));have hgc8:=fun j=>cell_of_row _ _ j _ _ (0,0) hg8;have hgf8:=fun j=>frozen_of_row _ _ j _ _ hg8;have hgl8:=lt_of_block hg8;(try simp only [World.size_alloc,World.size_drew] at hg8 hgc8 hgf8 hgl8)))))
        refine hK.out _ _ ?_ (fun hHeld=>?_)
        ·(first | (refine HCC.out _ ?_;(repeat' with_reducible first | assumption | exact bR | apply bD | apply bA | apply bC | apply bW | omega | simp <;> omega);done) | go_keep)
        clear hK K
        (try simp only [aP,aZ,aS,aG,aH,aI])
        refine onu 12 rfl (by kernel_rfl) fun K hK=>?_
        go_simp
        (have SN:=Lib.hid (SN.out.alloc #[.int .i64 0,.int .i64 0,.int .i64 0,.int .i64 0] 75))
        refine hK.out _ _ ?_ (fun hHeld=>?_)
        ·(first | (refine HCC.out _ ?_;(repeat' with_reducible first | assumption | exact bR | apply bD | apply bA | apply bC | apply bW | omega | simp <;> omega);done) | go_keep)
        clear hK K
        (try simp only [aP,aZ,aS,aG,aH,aI])
        refine onu 14 rfl (by kernel_rfl) fun K hK=>?_
        go_simp
        (have SN:=Lib.hid (Sit.overL (t:=75) (cs:=[.int .i64 0,.int .i64 0,.int .i64 0,.int .i64 0]) [.int .i64 bx.w,.int .i64 bx.d,.int .i64 bx.h,.int .i64 bx.gram] 0 (by first | exact SN.out | exact SN.out.rot2)))
        refine hK.out _ _ ?_ (fun hHeld=>?_)
        ·(first | (refine HCC.out _ ?_;(repeat' with_reducible first | assumption | exact bR | apply bD | apply bA | apply bC | apply bW | omega | simp <;> omega);done) | go_keep)
        clear hK K
        (try simp only [aP,aZ,aS,aG,aH,aI])
        refine lsu 15 rfl (by kernel_rfl) fun K hK=>?_
        go_simp
        (have SN:=Lib.hid (Sit.overL (t:=72) (cs:=[.int .i64 0,.int .i64 0,.int .i64 0,.int .i64 0]) [.int .i64 s.pallet,.int .i64 s.x,.int .i64 s.y,.int .i64 s.z] 0 (by first | exact SN.out | exact SN.out.rot2)))
        refine hK.out _ _ ?_
        clear hK K
        (try simp only [aP,aZ,aS,aG,aH,aI])
        go_wp2_with fail
        go_meet
        refine ⟨_,_,rfl,rfl,?_⟩
        (have HSN:=SN.out.rot2;clear HCC HR HU HBX SN hn2;(first | simp [setW,setL,World.setCell_alloc_at,World.setCell_alloc_past,World.size_alloc,hgl7,hgl8] at HSN | simp [setW,setL,World.setCell_alloc_at,World.setCell_alloc_past,World.size_alloc,hgl7] at HSN | simp [setW,setL,World.setCell_alloc_at,World.setCell_alloc_past,World.size_alloc,hgl8] at HSN | simp [setW,setL,World.setCell_alloc_at,World.setCell_alloc_past,World.size_alloc] at HSN);refine Lib.hid ?_;with_reducible exact HSN)
       refine .cons rfl (by kernel_rfl) (fun K hK=>?_) ?_
       ·go_simp
        (have SN:=Lib.hid (SN.out.alloc #[.int .i64 0,.int .i64 0,.int .i64 0,.int .i64 0] 75))
        refine hK.out _ _ ?_ (fun hHeld=>?_)
        ·(first | (refine HCC.out _ ?_;(repeat' with_reducible first | assumption | exact bR | apply bD | apply bA | apply bC | apply bW | omega | simp <;> omega);done) | go_keep)
        clear hK K
        (try simp only [aP,aZ,aS,aG,aH,aI])
        refine onu 6 rfl (by kernel_rfl) fun K hK=>?_
        go_simp
        ((go_at_call 53;refine (iBoxOf_any _ _ r c _ (HR.out.next SN.out.low) (HU.out.next (flat_mono _) SN.out.low)).mono ?_;rintro e w2 ⟨rfl,hb2⟩;rw [HBX.out];have hn2:=bstep (a:=wr) (by (repeat' with_reducible first | assumption | exact bR | apply bD | apply bA | apply bC | apply bW | omega | simp <;> omega)) hb2;have SN:=Lib.hid (SN.out.next hb2);(try (have hg7:=SN.out.on (fBox _ #[.int .i64 0,.int .i64 0,.int .i64 0,.int .i64 0] 75) (by first | exact .head _ | exact .tail _ (.head _));have hgc7:=fun j=>cell_of_row _ _ j _ _ (0,0) hg7;have hgf7:=fun j=>frozen_of_row _ _ j _ _ hg7;have hgl7:=lt_of_block hg7;(try simp only [World.size_alloc,World.size_drew] at hg7 hgc7 hgf7 hgl7)));(try (have hg8:=SN.out.on (fBox _ #[.int .i64 0,.int .i64 0,.int .i64 0,.int .i64 0] 72) (by first | exact .head _ | exact .tail _ (.head _));have hgc8:=fun j=>cell_of_row _ _ j _ _ (0,0) hg8;have hgf8:=fun j=>frozen_of_row _ _ j _ _ hg8;have hgl8:=lt_of_block hg8;(try simp only [World.size_alloc,World.size_drew] at hg8 hgc8 hgf8 hgl8)))))
        refine hK.out _ _ ?_ (fun hHeld=>?_)
        ·(first | (refine HCC.out _ ?_;(repeat' with_reducible first | assumption | exact bR | apply bD | apply bA | apply bC | apply bW | omega | simp <;> omega);done) | go_keep)
        clear hK K
        (try simp only [aP,aZ,aS,aG,aH,aI])
        refine onu 14 rfl (by kernel_rfl) fun K hK=>?_
        go_simp
        (have SN:=Lib.hid (Sit.overL (t:=75) (cs:=[.int .i64 0,.int .i64 0,.int .i64 0,.int .i64 0]) [.int .i64 bx.w,.int .i64 bx.d,.int .i64 bx.h,.int .i64 bx.gram] 0 (by first | exact SN.out | exact SN.out.rot2)))
        refine hK.out _ _ ?_ (fun hHeld=>?_)
        ·(first | (refine HCC.out _ ?_;(repeat' with_reducible first | assumption | exact bR | apply bD | apply bA | apply bC | apply bW | omega | simp <;> omega);done) | go_keep)
        clear hK K
        (try simp only [aP,aZ,aS,aG,aH,aI])
        refine lsu 15 rfl (by kernel_rfl) fun K hK=>?_
        go_simp
        (have SN:=Lib.hid (Sit.overL (t:=72) (cs:=[.int .i64 0,.int .i64 0,.int .i64 0,.int .i64 0]) [.int .i64 s.pallet,.int .i64 s.x,.int .i64 s.y,.int .i64 s.z] 0 (by first | exact SN.out | exact SN.out.rot2)))
        refine hK.out _ _ ?_
        clear hK K
        (try simp only [aP,aZ,aS,aG,aH,aI])
        go_wp2_with fail
        go_meet
        refine ⟨_,_,rfl,rfl,?_⟩
        (have HSN:=SN.out.rot2;clear HCC HR HU HBX SN hn2;(first | simp [setW,setL,World.setCell_alloc_at,World.setCell_alloc_past,World.size_alloc,hgl7,hgl8] at HSN | simp [setW,setL,World.setCell_alloc_at,World.setCell_alloc_past,World.size_alloc,hgl7] at HSN | simp [setW,setL,World.setCell_alloc_at,World.setCell_alloc_past,World.size_alloc,hgl8] at HSN | simp [setW,setL,World.setCell_alloc_at,World.setCell_alloc_past,World.size_alloc] at HSN);refine Lib.hid ?_;with_reducible exact HSN)
       exact .nil
      exact .nil
     case rest =>
     obtain ⟨g7,g8,rfl,rfl,SN2⟩:=hcut
     subst hL0
     have SN:=SN2
     clear SN2 HCC
     obtain ⟨hW,hD⟩:=HWD.out
     obtain ⟨a1,a2,a3,a4,a5,a6,a7,a8,a9⟩:=HIN.out
     obtain ⟨cg,hcg⟩:∃ c:Nat→Nat→Int,(fun q p:Nat=>(LH.take j).foldl (pixStep r x q p) 46)=c:=⟨_,rfl⟩
     have HCG:=Lib.hid hcg
     rw [hcg] at HG
     obtain ⟨X0,hX0⟩:∃ n:Nat,s.x=n:=⟨s.x.toNat,by omega⟩
     obtain ⟨Y0,hY0⟩:∃ n:Nat,s.y=n:=⟨s.y.toNat,by omega⟩
     obtain ⟨BW,hBW⟩:∃ n:Nat,bx.w=n:=⟨bx.w.toNat,by omega⟩
     obtain ⟨BD,hBD⟩:∃ n:Nat,bx.d=n:=⟨bx.d.toNat,by omega⟩
     have HSG:=Lib.hid (sign_mod (i:=(m:Int)) (by omega))
     have hwx:IntKind.i64.wrap (s.x + bx.w)=s.x + bx.w:=by rw [wrapE];unfold wrap64;omega
     have hwy:IntKind.i64.wrap (s.y + bx.d)=s.y + bx.d:=by rw [wrapE];unfold wrap64;omega
     have hxw:X0 + BW≤Wn:=by omega
     have hyd:Y0 + BD≤y:=by omega
     have HSTP:=Lib.hid (show grid (inkC s bx (97 + (m:Int) % 26) cg (Y0 + BD:Nat) X0) Wn y=grid (fun q p=>(LH.take (j + 1)).foldl (pixStep r x q p) 46) Wn y from grid_congr fun q p hq hp=>by
      rw [HST.out,show (LH.take j).foldl (pixStep r x q p) 46=cg q p by rw [← HCG.out]]
      unfold inkC pixStep inXY
      rw [HSA.out,HBA.out,HSG.out]
      simp only [Bool.and_eq_true,decide_eq_true_eq]
      split
      ·rename_i h1;rw [if_pos (by omega)]
      ·rename_i h1;rw [if_neg (by omega)])
     have k8:=SN.out.box (.tail _ (.head _))
     clear hcg HST
     go_wp2
     clear k8
     go_loopw [17] (fun i wr=>∃ (yy:Nat) (zs:List (List Int×Nat)),Y0≤yy∧yy≤Y0 + BD∧i=.int .i64 yy∧Hid (zs.map (·.1)=grid (inkC s bx (97 + (m:Int) % 26) cg yy X0) Wn y)∧Hid (Sit w wr (fBox g7 #[.int .i64 bx.w,.int .i64 bx.d,.int .i64 bx.h,.int .i64 bx.gram] 75::fBox g8 #[.int .i64 s.pallet,.int .i64 s.x,.int .i64 s.y,.int .i64 s.z] 72::fOF hdB 63 1 w.heap.size (.slice (some ⟨gr,0,none⟩) y c9) zs f9::fOF cI 3 1 w.heap.size (.slice (some ⟨gd,0,none⟩) LH.length d) (LH) fk::fBox (w.heap.size + 1 + 1) #[.int .i64 r.pallet.w,.int .i64 r.pallet.d,.int .i64 r.pallet.h,.int .i64 r.pallet.gram] 36::fBox (w.heap.size + 1) #[.slice (some ⟨b,off,none⟩) x.cartons.length ca,.slice (some ⟨b2,off2,none⟩) x.spots.length cb] 46::fBox w.heap.size (cR r A1 c1 A2 c2 A3 c3) 41::zs.map (fRow w.heap.size)))) (fun i _=>Y0 + BD - (intOf i).toNat)
     case atStart=>exact ⟨Y0,zs,Nat.le_refl _,by omega,(by first | rfl | rw [hY0]),Lib.hid (by rw [HG.out];exact grid_congr fun q p _ _=>by unfold inkC;rw [if_neg (by omega)]),SN⟩
     case round =>
      clear SN HG
      obtain ⟨yy,zs,hyy0,hyy1,rfl,HG,SN⟩:=hrel
      have k7:=SN.out.box (.head _)
      have k8:=SN.out.box (.tail _ (.head _))
      by_cases hlty:yy < Y0 + BD
      ·have hlty1:(yy:Int) < s.y + bx.d:=by omega
       go_wp2
       clear k7 k8
       go_loopw [18] (fun i wr=>∃ (aa:Nat) (zs:List (List Int×Nat)),X0≤aa∧aa≤X0 + BW∧i=.int .i64 aa∧Hid (zs.map (·.1)=grid (inkC s bx (97 + (m:Int) % 26) cg yy aa) Wn y)∧Hid (Sit w wr (fBox g7 #[.int .i64 bx.w,.int .i64 bx.d,.int .i64 bx.h,.int .i64 bx.gram] 75::fBox g8 #[.int .i64 s.pallet,.int .i64 s.x,.int .i64 s.y,.int .i64 s.z] 72::fOF hdB 63 1 w.heap.size (.slice (some ⟨gr,0,none⟩) y c9) zs f9::fOF cI 3 1 w.heap.size (.slice (some ⟨gd,0,none⟩) LH.length d) (LH) fk::fBox (w.heap.size + 1 + 1) #[.int .i64 r.pallet.w,.int .i64 r.pallet.d,.int .i64 r.pallet.h,.int .i64 r.pallet.gram] 36::fBox (w.heap.size + 1) #[.slice (some ⟨b,off,none⟩) x.cartons.length ca,.slice (some ⟨b2,off2,none⟩) x.spots.length cb] 46::fBox w.heap.size (cR r A1 c1 A2 c2 A3 c3) 41::zs.map (fRow w.heap.size)))) (fun i _=>X0 + BW - (intOf i).toNat)
       case atStart=>exact ⟨X0,zs,Nat.le_refl _,by omega,(by first | rfl | rw [hX0]),HG,SN⟩
       case round =>
        clear SN HG
        obtain ⟨aa,zs,haa0,haa1,rfl,HG,SN⟩:=hrel
        have k7:=SN.out.box (.head _)
        have k8:=SN.out.box (.tail _ (.head _))
        by_cases hlta:aa < X0 + BW
        ·have hlta1:(aa:Int) < s.x + bx.w:=by omega
         obtain ⟨zr,hzr,hz1⟩:=grid_at HG.out (show yy < y by omega)
         have hzl:zr.1.length=Wn:=by rw [hz1];simp
         have hkr:=(SN.out.list (.tail _ (.tail _ (.head _)))).cells (fun _=>rfl) hzr 0 _ rfl
         rw [Nat.mul_one,Nat.add_zero,hzl] at hkr
         have HO:=(SN.out.list (f:=cU) (e:=5) (K:=1) (base:=w.heap.size) (v:=.slice (some ⟨zr.2,0,none⟩) zr.1.length zr.1.length) (xs:=zr.1) (fp:=[zr.2]) (by repeat first | exact List.mem_map.2 ⟨zr,List.mem_of_getElem? hzr,rfl⟩ | refine .tail _ ?_))
         obtain ⟨old,hold⟩:∃ u,zr.1[aa]? = some u:=⟨_,List.getElem?_eq_getElem (by omega)⟩
         have hko:=HO.cells (fun _=>rfl) hold 0 _ rfl
         rw [Nat.mul_one,Nat.add_zero] at hko
         have hfo:=fun o=>HO.free o
         have SF:=Lib.hid (Sit.ink [fBox g7 #[.int .i64 bx.w,.int .i64 bx.d,.int .i64 bx.h,.int .i64 bx.gram] 75,fBox g8 #[.int .i64 s.pallet,.int .i64 s.x,.int .i64 s.y,.int .i64 s.z] 72] [fOF cI 3 1 w.heap.size (.slice (some ⟨gd,0,none⟩) LH.length d) (LH) fk,fBox (w.heap.size + 1 + 1) #[.int .i64 r.pallet.w,.int .i64 r.pallet.d,.int .i64 r.pallet.h,.int .i64 r.pallet.gram] 36,fBox (w.heap.size + 1) #[.slice (some ⟨b,off,none⟩) x.cartons.length ca,.slice (some ⟨b2,off2,none⟩) x.spots.length cb] 46,fBox w.heap.size (cR r A1 c1 A2 c2 A3 c3) 41] SN.out hzr (show aa < zr.1.length by omega) (97 + (m:Int) % 26))
         have HG2:=Lib.hid (grid_set HG.out hzr (show aa < Wn by omega) (97 + (m:Int) % 26))
         have HGC:=Lib.hid (show ∀ q p:Nat,(if p=yy∧q=aa then 97 + (m:Int) % 26 else inkC s bx (97 + (m:Int) % 26) cg yy aa q p)=inkC s bx (97 + (m:Int) % 26) cg yy ((aa + 1:Nat):Int) q p by
          intro q p
          unfold inkC
          split <;> split <;> first | rfl | (exfalso;omega) | (split <;> first | rfl | (exfalso;omega)))
         have hyl:(yy:Int) < (y:Int):=by omega
         have hal:(aa:Int) < (Wn:Int):=by omega
         clear HO hold hz1 hzr
         go_wp2
         go_roundw
         case rel=>exact ⟨aa + 1,_,by omega,hlta,by go_num,Lib.hid (by rw [HG2.out];exact grid_congr fun q p _ _=>HGC.out q p),SF⟩
         case measure=>simp [intOf] <;> omega
        ·obtain rfl:aa=X0 + BW:=by omega
         have HGY:=Lib.hid (show ∀ q p:Nat,inkC s bx (97 + (m:Int) % 26) cg yy ((X0 + BW:Nat):Int) q p=inkC s bx (97 + (m:Int) % 26) cg ((yy + 1:Nat):Int) X0 q p by
          intro q p
          unfold inkC
          by_cases hc:(s.x≤q∧q < s.x + bx.w)∧(s.y≤p∧p < (yy:Int)) ∨ (s.x≤q∧q < ((X0 + BW:Nat):Int))∧(p:Int)=yy
          ·rw [if_pos hc,if_pos (by omega)]
          ·rw [if_neg hc,if_neg (by omega)])
         go_wp2
         go_roundw
         case rel=>exact ⟨yy + 1,zs,by omega,hlty,by go_num,Lib.hid (by rw [HG.out];exact grid_congr fun q p _ _=>HGY.out q p),SN⟩
         case measure=>simp [intOf] <;> omega
      ·obtain rfl:yy=Y0 + BD:=by omega
       have hge : ¬ ((Y0 + BD:Nat):Int) < s.y + bx.d:=by omega
       go_wp2
       go_roundw
       case rel=>exact ⟨j + 1,zs,hltj,by go_num,Lib.hid (by rw [HG.out];exact HSTP.out),Lib.hid SN.out.drop.drop⟩
       case measure=>simp [intOf] <;> omega
    ·obtain rfl:j=LH.length:=by omega
     have hzl:zs.length=y:=grid_len HG.out
     obtain ⟨hW,hD⟩:=HWD.out
     have HRP:=Lib.hid (show zs.map (·.1)=(List.range y).map (fun p=>rowP r x k z p) by
      rw [HG.out,List.take_length]
      unfold grid rowP
      rw [show r.pallet.w.toNat=Wn by omega]
      refine List.map_congr_left fun p hp=>List.map_congr_left fun q hq=>?_
      have h1:=List.mem_range.1 hp
      have h2:=List.mem_range.1 hq
      have:=pix_eq (k:=k) (px:=q) (py:=p) HQ.out ⟨by omega,by omega⟩ ⟨by omega,by omega⟩ HZ.out
      unfold pixI at this
      rw [HLH.out] at this
      exact this)
     clear hW hD
     have SN:=Lib.hid ((SN.out.alloc #[] 9).boxNil cS 1)
     go_wp2
     go_loopw [19,135] (fun vv i wr=>∃ (n:Nat) (fo:List Nat),n≤y∧i=.int .i64 n∧Hid (Sit w wr (fOF cS 9 1 w.heap.size vv ((List.range n).map fun p=>byt (rowP r x k z p)) fo::fOF hdB 63 1 w.heap.size (.slice (some ⟨gr,0,none⟩) y c9) zs f9::fOF cI 3 1 w.heap.size (.slice D LH.length d) (LH) fk::fBox (w.heap.size + 1 + 1) #[.int .i64 r.pallet.w,.int .i64 r.pallet.d,.int .i64 r.pallet.h,.int .i64 r.pallet.gram] 36::fBox (w.heap.size + 1) #[.slice PA x.cartons.length ca,.slice PB x.spots.length cb] 46::fBox w.heap.size (cR r A1 c1 A2 c2 A3 c3) 41::zs.map (fRow w.heap.size)))) (fun _ i _=>y - (intOf i).toNat)
     case atStart=>exact ⟨0,_,Nat.zero_le _,rfl,SN⟩
     case round =>
      clear SN
      obtain ⟨n,fo,hn,rfl,SN⟩:=hrel
      obtain ⟨OL,hOL⟩:∃ O,((List.range n).map fun p=>byt (rowP r x k z p))=O:=⟨_,rfl⟩
      have hol:OL.length=n:=by rw [← hOL];simp
      have HTK:=Lib.hid (show ((List.range (n + 1)).map fun p=>byt (rowP r x k z p))=OL ++ [byt (rowP r x k z n)] by rw [range_map_step,hOL])
      rw [hOL] at SN
      obtain ⟨Ao,co,rfl,_⟩:=(SN.out.list (.head _)).form
      by_cases hltn:n < y
      ·obtain ⟨zr,hzr⟩:∃ zr,zs[n]? = some zr:=⟨_,List.getElem?_eq_getElem (by omega)⟩
       have hz1:zr.1=rowP r x k z n:=by
        have h:=congrArg (fun l=>l[n]?) HRP.out
        simp only [List.getElem?_map,hzr,List.getElem?_range hltn,Option.map_some] at h
        exact Option.some.inj h
       have hkr:=(SN.out.list (.tail _ (.head _))).cells (fun _=>rfl) hzr 0 _ rfl
       rw [Nat.mul_one,Nat.add_zero] at hkr
       have hbk:=of_back (P:=Tryz.prog) (SN.out.list (f:=cU) (e:=5) (K:=1) (base:=w.heap.size) (v:=.slice (some ⟨zr.2,0,none⟩) zr.1.length zr.1.length) (xs:=zr.1) (fp:=[zr.2]) (by repeat first | exact List.mem_map.2 ⟨zr,List.mem_of_getElem? hzr,rfl⟩ | refine .tail _ ?_)) (fun u hu=>by
        rw [hz1] at hu
        obtain ⟨q,_,rfl⟩:=List.mem_map.1 hu
        exact pixS_in r x k z q n (by omega)) 63 9 Tryz.underlying63 Tryz.underlying5 Tryz.underlying9
       rw [show byt zr.1=byt (rowP r x k z n) by rw [hz1]] at hbk
       have HBL:=Lib.hid hz1
       have hyl:(n:Int) < (y:Int):=by omega
       clear hz1 hOL
       go_wp2_with (at_builtin;refine papp_String _ _ rfl rfl (byt (rowP r x k z n)) rfl rfl (alloc_at (by first | rfl | (simp;done) | (simp;omega))) rfl ((SN.out.list (.head _)).next (by repeat' with_reducible first | assumption | exact bR | apply bD | apply bA | apply bC | apply bN | simp <;> omega)) (by first | omega | (simp;omega)) (by have:=SN.out.low.size;first | omega | (simp;done) | (simp;omega) | (simp at this ⊢;omega)) ?_;intro v7 w7 ha;obtain ⟨g7,S7⟩:=(SN.out.next (by repeat' with_reducible first | assumption | exact bR | apply bD | apply bA | apply bC | apply bN | simp <;> omega)).app ha;have S8:=Lib.hid S7;clear S7 ha)
       go_roundw
       case rel=>exact ⟨n + 1,_,hltn,by go_num,by rw [HTK.out];exact S8⟩
       case measure=>simp [intOf] <;> omega
      ·obtain rfl:n=y:=by omega
       go_wp2
       go_ret
       rw [HM.out,hOL]
       exact SN.out.mof
end Go.Proofs.YtioijfplbgpjpaaGreat
namespace Go.Proofs.YtioijfplbgpjpaaGreat
set_option linter.unusedVariables false
set_option linter.unusedSimpArgs false
set_option maxRecDepth 100000
open Go.RowKit
def DigInv (u v:Nat) (out:List UInt8):Prop:=if v=0 then out=Lib.decDigits u else Lib.decDigits u=Lib.decDigits v ++ out
theorem DigInv.start {u:Nat} (h:u ≠ 0):DigInv u u []:=by unfold DigInv;rw [if_neg h];simp
theorem DigInv.step {u v:Nat} {out:List UInt8} (h:DigInv u v out) (hv:v ≠ 0):DigInv u (v / 10) (UInt8.ofNat (48 + v % 10)::out):=by
 unfold DigInv at h ⊢
 rw [if_neg hv] at h
 by_cases h2:v < 10
 ·rw [if_pos (by omega),h,Lib.decDigits,dif_pos h2,Nat.mod_eq_of_lt h2];rfl
 ·rw [if_neg (by omega),h,Lib.decDigits,dif_neg h2];simp
theorem DigInv.done {u:Nat} {out:List UInt8} (h:DigInv u 0 out):out=Lib.decDigits u:=by unfold DigInv at h;rwa [if_pos rfl] at h
theorem DigInv.len {u v:Nat} {out:List UInt8} (h:DigInv u v out) (hu:u≤9223372036854775808):out.length≤21:=by
 have h1:(Lib.decDigits u).length≤21:=by
  rcases Nat.eq_zero_or_pos u with h0 | h0
  ·subst h0;decide +kernel
  ·have h2:=Lib.itoa_length_le (-(u:Int)) (by omega) (by omega)
   rw [Lib.itoa_neg u h0] at h2
   simp at h2
   omega
 unfold DigInv at h
 split at h
 ·rw [h];exact h1
 ·rw [h,List.length_append] at h1;omega
end Go.Proofs.YtioijfplbgpjpaaGreat
namespace Go.Proofs.YtioijfplbgpjpaaGreat
set_option linter.unusedVariables false
set_option linter.unusedSimpArgs false
set_option maxRecDepth 100000
open Go.RowKit Go.WideShapes Go.ChangeShapes Go.ChangeAt Go.Deep
end Go.Proofs.YtioijfplbgpjpaaGreat
namespace Go.Proofs.YtioijfplbgpjpaaGreat
set_option linter.unusedVariables false
set_option linter.unusedSimpArgs false
set_option maxRecDepth 100000
open Go.RowKit
theorem sumTo_mul (a:Int) (f:Nat→Int):∀ n,sumTo (fun z=>a * f z) n=a * sumTo f n
 |0=>by unfold sumTo;rw [Int.mul_zero]
 |n + 1=>by unfold sumTo;rw [sumTo_mul a f n,Int.mul_add]
section
variable {r:Request} {x:Plan} {k z:Int}
theorem onPal_nodup (x:Plan) (k:Int):(onPal x k).Nodup:=by
 unfold onPal
 split
 ·have h1:((List.range x.spots.length).filter (onAt x k)).Pairwise (· < ·):=(List.pairwise_lt_range (n:=x.spots.length)).filter _
  show List.Pairwise _ _
  rw [List.pairwise_map]
  exact h1.imp (fun h=>by show Int.ofNat _ ≠ Int.ofNat _;intro e;have:=Int.ofNat.inj e;omega)
 ·exact List.nodup_nil
theorem atHeight_nodup (r:Request) (x:Plan) (k z:Int):(atHeight r x k z).Nodup:=(onPal_nodup x k).filter _
def hitXY (r:Request) (x:Plan) (px py i:Int):Int:=if inXY r x px py i=true then 1 else 0
theorem sum_one:∀ (l:List Int) (f:Int→Int) (i:Int),l.Nodup→i∈l→(∀ u∈l,u ≠ i→f u=0)→(l.map f).sum=f i
 |[],_,_,_,h,_=>by simp at h
 |a::l,f,i,hn,h,hz=>by
  have hn2:=List.nodup_cons.1 hn
  rw [List.map_cons,List.sum_cons]
  by_cases e:a=i
  ·subst e
   have:(l.map f).sum=0:=by
    have:∀ l:List Int,(∀ u∈l,f u=0)→(l.map f).sum=0:=by
     intro l
     induction l with
     |nil=>intro _;rfl
     |cons b l ih=>intro hb;rw [List.map_cons,List.sum_cons,hb b (by simp),ih (fun u hu=>hb u (by simp [hu]))];rfl
    exact this l fun u hu=>hz u (by simp [hu]) (fun e=>hn2.1 (by rw [← e];exact hu))
   rw [this];omega
  ·have hi:i∈l:=(List.mem_cons.1 h).resolve_left (fun h=>e h.symm)
   rw [hz a (by simp) e,sum_one l f i hn2.2 hi (fun u hu=>hz u (by simp [hu]))]
   omega
theorem sum_none:∀ (l:List Int) (f:Int→Int),(∀ u∈l,f u=0)→(l.map f).sum=0
 |[],_,_=>rfl
 |a::l,f,h=>by rw [List.map_cons,List.sum_cons,h a (by simp),sum_none l f (fun u hu=>h u (by simp [hu]))];rfl
theorem sign_ne {i:Int} (h:0≤i):sign i ≠ 46∧97≤sign i∧sign i≤122:=by
 unfold sign
 have h1:=Int.tmod_nonneg 26 h
 have h2:=Int.tmod_lt_of_pos i (show (0:Int) < 26 by omega)
 omega
theorem pix_hit (h:feasible r x=true) {px py:Int} (hx:0≤px∧px≤2000) (hy:0≤py∧py≤2000) (hz:0≤z∧z≤2000):(if pixS r x k z px py=46 then (0:Int) else 1)=((atHeight r x k z).map (hitXY r x px py)).sum:=by
 have hmem:∀ u∈atHeight r x k z,∃ j:Nat,u=j∧j < x.cartons.length:=fun u hu=>by
  obtain ⟨j,e,hj,_⟩:=(atHeight_mem h).1 hu
  exact ⟨j,e,hj⟩
 unfold pixS firstI firstFrom
 rw [List.drop_zero]
 cases hf:(List.range x.cartons.length).findIdx? (covB r x k z px py) with
 |none =>
  simp only
  rw [if_pos (show (-1:Int) < 0 by omega),if_pos rfl]
  refine (sum_none _ _ fun u hu=>?_).symm
  obtain ⟨j,rfl,hj⟩:=hmem u hu
  have:=List.findIdx?_eq_none_iff.1 hf j (List.mem_range.2 hj)
  unfold hitXY
  rw [if_neg]
  intro hc
  rw [(cov_iff h hx hy hz hj).2 ⟨hu,hc⟩] at this
  cases this
 |some n =>
  obtain ⟨h1,h2,_⟩:=List.findIdx?_eq_some_iff_getElem.1 hf
  rw [List.length_range] at h1
  rw [List.getElem_range] at h2
  simp only [Nat.zero_add]
  rw [if_neg (show ¬ ((n:Int) < 0) by omega),if_neg (sign_ne (show (0:Int)≤(n:Int) by omega)).1]
  obtain ⟨p1,p2⟩:=(cov_iff h hx hy hz h1).1 h2
  rw [sum_one _ (hitXY r x px py) (n:Int) (atHeight_nodup r x k z) p1 (fun u hu hne=>?_)]
  ·unfold hitXY;rw [if_pos p2]
  ·obtain ⟨j,rfl,hj⟩:=hmem u hu
   unfold hitXY
   rw [if_neg]
   intro hc
   exact hne (by rw [cov_one h hx hy hz hj h1 ((cov_iff h hx hy hz hj).2 ⟨hu,hc⟩) h2])
theorem hit_split (px py i:Int):hitXY r x px py i=(if (spotAt x i).y≤py∧py < (spotAt x i).y + (boxAt r x i).d then 1 else 0) * (if (spotAt x i).x≤px∧px < (spotAt x i).x + (boxAt r x i).w then 1 else 0):=by
 unfold hitXY inXY
 by_cases h1:(spotAt x i).y≤py∧py < (spotAt x i).y + (boxAt r x i).d
 ·by_cases h2:(spotAt x i).x≤px∧px < (spotAt x i).x + (boxAt r x i).w
  ·rw [if_pos h1,if_pos h2,if_pos (by simp [h1,h2])];rfl
  ·rw [if_pos h1,if_neg h2,if_neg (by simp [h1];omega)];rfl
 ·rw [if_neg h1,if_neg (by simp;omega),Int.zero_mul]
def drawn (r:Request) (x:Plan) (k z:Int) (W D:Nat):Int:=sumTo (fun py=>sumTo (fun px=>if pixS r x k z px py=46 then 0 else 1) W) D
theorem drawn_covered (h:feasible r x=true) (hz:0≤z∧z≤2000) {W D:Nat} (hW:(W:Int)=r.pallet.w) (hD:(D:Int)=r.pallet.d):drawn r x k z W D=coveredR r x k z:=by
 have hp:=pal_range h
 rw [(covered_sum h).1]
 unfold drawn
 rw [sumTo_congr D (g:=fun py=>((atHeight r x k z).map fun u=>sumTo (fun px=>hitXY r x px py u) W).sum) (fun py hpy=>by
  rw [sumTo_congr W (g:=fun px=>((atHeight r x k z).map (hitXY r x px py)).sum) (fun px hpx=>pix_hit h (by omega) (by omega) hz)]
  exact sum_swap (fun px u=>hitXY r x px py u) _ W),sum_swap (fun py u=>sumTo (fun px=>hitXY r x px py u) W)]
 congr 1
 refine List.map_congr_left fun u hu=>?_
 obtain ⟨a1,a2,a3,a4,a5,a6,a7,a8,a9⟩:=onPal_facts h (atHeight_sub hu)
 rw [sumTo_congr D (g:=fun py=>(boxAt r x u).w * (if (spotAt x u).y≤(py:Int)∧(py:Int) < (spotAt x u).y + (boxAt r x u).d then 1 else 0)) (fun py _=>by
  rw [sumTo_congr W (g:=fun px=>(if (spotAt x u).y≤(py:Int)∧(py:Int) < (spotAt x u).y + (boxAt r x u).d then 1 else 0) * (if (spotAt x u).x≤(px:Int)∧(px:Int) < (spotAt x u).x + (boxAt r x u).w then 1 else 0)) (fun px _=>hit_split _ _ _)]
  rw [sumTo_mul,sumTo_band 1 _ _ W a4.1 (by omega),Int.mul_comm]
  congr 1
  rw [Int.one_mul]
  omega)]
 rw [sumTo_mul,sumTo_band 1 _ _ D a5.1 (by omega),Int.one_mul]
 unfold areaOf
 congr 1
 omega
theorem blank_count (h:feasible r x=true) (hz:0≤z∧z≤2000) {W D:Nat} (hW:(W:Int)=r.pallet.w) (hD:(D:Int)=r.pallet.d):sumTo (fun py=>sumTo (fun px=>if pixS r x k z px py=46 then 1 else 0) W) D=r.pallet.w * r.pallet.d - coveredR r x k z:=by
 have h1:=drawn_covered h hz hW hD (k:=k)
 have hone:∀ n:Nat,∀ a:Int,sumTo (fun _=>a) n=a * n:=by
  intro n a
  induction n with
  |zero=>unfold sumTo;simp
  |succ n ih=>unfold sumTo;rw [ih,show ((n + 1:Nat):Int)=(n:Int) + 1 by omega,Int.mul_add,Int.mul_one]
 have h2:sumTo (fun py=>sumTo (fun px=>if pixS r x k z px py=46 then 1 else 0) W) D + drawn r x k z W D=r.pallet.w * r.pallet.d:=by
  unfold drawn
  rw [← sumTo_add,sumTo_congr D (g:=fun _=>r.pallet.w) (fun py _=>by
   rw [← sumTo_add,sumTo_congr W (g:=fun _=>1) (fun px _=>by split <;> rfl),hone,Int.one_mul,hW]),hone,hD]
 omega
end
end Go.Proofs.YtioijfplbgpjpaaGreat
namespace Go.Proofs.YtioijfplbgpjpaaGreat
set_option linter.unusedVariables false
set_option linter.unusedSimpArgs false
set_option maxRecDepth 100000
open Go.RowKit
section
variable {r:Request} {x:Plan}
end
end Go.Proofs.YtioijfplbgpjpaaGreat
