/-
  The plain model of an order's checks. No program is named here.
-/
import Derived.Test.YteamlfcfillbjaaGreatRq
import Derived.Test.YteamlfcfillbjaaGreatSo
namespace Go.Proofs.YteamlfcfillbjaaGreat
set_option linter.unusedVariables false
set_option linter.unusedSimpArgs false
set_option maxRecDepth 100000
open Go.RowKit
def sideOk (x : Int) : Bool := inB x 1 2000
def itemOk (x : Item) : Bool := inB x.id 0 999 && sideOk x.w && sideOk x.h && sideOk x.d && inB x.gram 1 100000 && inB x.cls 0 3 && inB x.count 1 6
def typeOk (x : GType) : Bool := inB x.id 0 999 && sideOk x.w && sideOk x.h && sideOk x.d && inB x.tare 0 100000 && inB x.gram 1 100000 && inB x.cost 0 100000
def palletOk (x : Pallet) : Bool := sideOk x.w && sideOk x.d && sideOk x.h && inB x.gram 1 100000
def pairOk (p : Pair) : Bool := inB p.a 0 3 && inB p.b 0 3
def sumCount : List Item → Int
  | [] => 0
  | x :: xs => x.count + sumCount xs
def boundsOk (r : Request) : Bool :=
  inB r.way 0 1 && palletOk r.pallet && inB r.classes 1 4 && decide (r.pairs.length ≤ 16) && r.pairs.all pairOk && inB r.types.length 1 5 && r.types.all typeOk && inB r.master 0 999 && decide (r.items.length ≤ 8) && r.items.all itemOk && decide (sumCount r.items ≤ 12)
def beside (ps : List Pair) (a b : Int) : Bool := ps.any fun p => p.a == a && p.b == b
def tableOk (ps : List Pair) (n : Int) : Bool :=
  inB n 1 4 && (List.range n.toNat).all fun a => beside ps a a && (List.range n.toNat).all fun b => beside ps a b == beside ps b a
def typeById (r : Request) (id : Int) : GType × Bool := match r.types.find? (fun t => t.id == id) with
  | some t => (t, true)
  | none => (⟨0, 0, 0, 0, 0, 0, 0⟩, false)
def masterOf (r : Request) : GType × Bool := typeById r r.master
def sides (w h d : Int) : List Int := sortI [w, h, d]
def leSides : List Int → List Int → Bool
  | [a, b, c], [d, e, f] => decide (a ≤ d) && decide (b ≤ e) && decide (c ≤ f)
  | _, _ => false
def fits (x : Item) (t : GType) : Bool := leSides (sides x.w x.h x.d) (sides t.w t.h t.d) && decide (x.gram ≤ t.gram)
def typeDup (ts : List GType) (i : Nat) : Bool := (ts.take i).any fun q => q.id == (ts.getD i default).id
def itemDup (xs : List Item) (i : Nat) : Bool := (xs.take i).any fun q => q.id == (xs.getD i default).id
def itemBad (c : Int) (xs : List Item) (i : Nat) : Bool := decide (c ≤ (xs.getD i default).cls) || itemDup xs i
def pairOut (c : Int) (p : Pair) : Bool := decide (c ≤ p.a) || decide (c ≤ p.b)
def namesOk (r : Request) : Bool :=
  ((List.range r.types.length).all fun i => !typeDup r.types i) && ((List.range r.items.length).all fun i => !itemBad r.classes r.items i) && !(r.pairs.any (pairOut r.classes)) && (masterOf r).2
def tooBig (p : Pallet) (t : GType) : Bool := decide (p.w < t.w) || decide (p.d < t.d) || decide (p.h < t.h) || decide (p.gram < t.tare + t.gram)
def classOf (r : Request) : Int :=
  if boundsOk r = false then 2 else if namesOk r = false then 3 else if tableOk r.pairs r.classes = false then 4
  else if r.items.any (fun x => !fits x (masterOf r).1) = true then 5 else if r.types.any (tooBig r.pallet) = true then 6 else 0
def soundR (r : Request) : Bool := classOf r == 0
end Go.Proofs.YteamlfcfillbjaaGreat
