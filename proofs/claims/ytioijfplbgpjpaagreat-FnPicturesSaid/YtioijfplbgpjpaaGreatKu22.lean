/-
  Plain laws on what moved: it is ascending, it moved both ways, it lies with others. No function is named here.
-/
import Derived.Test.YtioijfplbgpjpaaGreatKu09
import Derived.Test.YtioijfplbgpjpaaGreatKu01
import Derived.Test.YtioijfplbgpjpaaGreatKu00
namespace Go.Proofs.YtioijfplbgpjpaaGreat
set_option linter.unusedVariables false
set_option linter.unusedSimpArgs false
set_option maxRecDepth 100000
open Go.RowKit
theorem upTo_asc {sl:List Int} (hs:sl.Pairwise (·≤·)):∀ k,k≤sl.length→(Lib.compactUpTo sl.toArray k).Pairwise (· < ·)∧(∀ u,u∈Lib.compactUpTo sl.toArray k↔u∈sl.take k)
 |0,_=>⟨by simp [Lib.compactUpTo],fun u=>by simp [Lib.compactUpTo]⟩
 |k + 1,hk=>by
  obtain ⟨h1,h2⟩:=upTo_asc hs k (by omega)
  have hk1:k < sl.length:=hk
  have e1:sl.toArray[k]! = sl[k]:=by simp [hk1]
  rw [Lib.compactUpTo_succ,e1,List.take_add_one,List.getElem?_eq_getElem hk1]
  have hle:∀ u∈sl.take k,u≤sl[k]:=fun u hu=>by
   obtain ⟨j,hj,rfl⟩:=List.getElem_of_mem hu
   have hj2:j < k:=by simp at hj;omega
   rw [List.getElem_take]
   exact List.pairwise_iff_getElem.1 hs j k (by omega) hk1 hj2
  cases hq:Lib.keeps sl.toArray k with
  |true =>
   simp only [Lib.keeps,decide_eq_true_eq,e1] at hq
   simp only [if_true]
   refine ⟨List.pairwise_append.2 ⟨h1,by simp,fun u hu y hy=>?_⟩,fun u=>by simp only [List.mem_append,h2,Option.toList_some]⟩
   simp at hy
   subst hy
   have hu2:=(h2 u).1 hu
   have hlu:=hle u hu2
   rcases hq with hq | hq
   ·subst hq;simp at hu2
   ·have hk0:0 < k:=by
     rcases Nat.eq_zero_or_pos k with h | h
     ·subst h;simp at hu2
     ·exact h
    have e2:sl.toArray[k - 1]! = sl[k - 1]:=by simp [show k - 1 < sl.length by omega]
    rw [e2] at hq
    obtain ⟨j,hj,rfl⟩:=List.getElem_of_mem hu2
    have hj2:j < k:=by simp at hj;omega
    rw [List.getElem_take] at hlu ⊢
    have h3:sl[j]≤sl[k - 1]:=by
     rcases Nat.lt_or_ge j (k - 1) with h | h
     ·exact List.pairwise_iff_getElem.1 hs j (k - 1) (by omega) (by omega) h
     ·obtain rfl:j=k - 1:=by omega
      exact Int.le_refl _
    have h4:sl[k - 1]≤sl[k]:=List.pairwise_iff_getElem.1 hs (k - 1) k (by omega) hk1 (by omega)
    have h5:sl[k] ≠ sl[k - 1]:=hq
    omega
  |false =>
   simp only [Lib.keeps,decide_eq_false_iff_not,not_or,e1] at hq
   have hk0:0 < k:=by omega
   have e2:sl.toArray[k - 1]! = sl[k - 1]:=by simp [show k - 1 < sl.length by omega]
   have hq2:sl[k]=sl[k - 1]:=by
    refine Classical.byContradiction fun hn=>hq.2 ?_
    rw [e2]
    exact hn
   have hm:sl[k]∈sl.take k:=by
    rw [hq2]
    exact List.mem_iff_getElem.2 ⟨k - 1,by simp;omega,by rw [List.getElem_take]⟩
   refine ⟨by simpa using h1,fun u=>?_⟩
   simp only [Bool.false_eq_true,if_false,List.append_nil,h2,List.mem_append,Option.toList_some,List.mem_singleton]
   exact ⟨.inl,fun h=>h.elim id (fun h=>h ▸ hm)⟩
theorem kindsM_asc (xs:List Int):(kindsM xs).Pairwise (· < ·):=by
 unfold kindsM Lib.compact
 exact (upTo_asc (sortI_sorted xs) _ (Nat.le_refl _)).1
theorem kindsM_mem {xs:List Int} {u:Int} : u∈kindsM xs↔u∈xs:=by
 unfold kindsM Lib.compact
 rw [(upTo_asc (sortI_sorted xs) _ (Nat.le_refl _)).2,List.take_length,sortI_mem]
end Go.Proofs.YtioijfplbgpjpaaGreat
namespace Go.Proofs.YtioijfplbgpjpaaGreat
set_option linter.unusedVariables false
set_option linter.unusedSimpArgs false
set_option maxRecDepth 100000
open Go.RowKit
set_option maxHeartbeats 400000 in
theorem sameInts_any (v u:Value) (xs ys:List Int) (w:World) (h:RL 16777216 1 (flat cI) w w.heap.size v xs) (h2:RL 16777216 1 (flat cI) w w.heap.size u ys) :
  Calls Tryz.prog 46 #[v,u] w fun e w'=>e=.returned (.bool (decide (xs=ys)))∧Below w.heap.size w w':=by
 have h':=h
 obtain ⟨A,c,rfl,hbd,_⟩:=h
 have H:=Lib.hid h'
 clear h'
 have h':=h2
 obtain ⟨A2,c2,rfl,hbd2,_⟩:=h2
 have H2:=Lib.hid h'
 clear h'
 by_cases hl:xs.length=ys.length
 ·have hl0:((xs.length:Int) != (ys.length:Int))=false:=by simp [hl]
  have HL:=Lib.hid hl
  clear hl
  go_enter Tryz.func46,Tryz.ntmps46
  go_wp2
  go_loopw [5] (fun i wr=>∃ k:Nat,k≤xs.length∧i=.int .i64 k∧(∀ i,i < k→xs[i]? = ys[i]?)∧Below w.heap.size w wr) (fun i _=>xs.length - (intOf i).toNat)
  case atStart=>exact ⟨0,Nat.zero_le _,rfl,fun _ h=>by omega,Below.refl _ _⟩
  case round =>
   obtain ⟨k,hk,rfl,heq,hbl⟩:=hrel
   have HE:=Lib.hid heq
   clear heq
   by_cases hlt:k < xs.length
   ·obtain ⟨b,off,x,_,rfl,hb,hx,_,rfl,hc⟩:=(H.out.below (flat_mono _) hbl).at_ k hlt
    obtain ⟨b2,off2,y,_,rfl,hb2,hy,_,rfl,hc2⟩:=(H2.out.below (flat_mono _) hbl).at_ k (HL.out ▸ hlt)
    have hc0:=hc 0 _ rfl
    have hd0:=hc2 0 _ rfl
    simp only [Nat.add_zero,Nat.mul_one] at hc0 hd0
    have hlt2:k < ys.length:=HL.out ▸ hlt
    clear hc hc2
    by_cases hxy:x=y
    ·subst hxy
     have hdx:(x != x)=false:=by simp
     go_wp2
     go_quiet (fail)
     go_wp2
     go_roundw
     case rel=>exact ⟨k + 1,hlt,by go_num,eq_upto HE.out hx hy,below_drewN hbl _⟩
     case measure=>simp [intOf];omega
    ·have hne:=list_ne_of hx hy hxy
     have HN:=Lib.hid hne
     have hdx:(x != y)=true:=by simpa using hxy
     clear hne hxy
     go_wp2
     go_quiet (fail)
     go_wp2
     go_ret
     exact ⟨ret_bool (by simp [HN.out]),below_drewN hbl _⟩
   ·have heq:=list_eq_of HL.out (show k=xs.length by omega) HE.out
    have HN:=Lib.hid heq
    clear heq
    go_wp2
    go_ret
    exact ⟨ret_bool (by simp [HN.out]),hbl⟩
 ·have hl0:((xs.length:Int) != (ys.length:Int))=true:=by rw [bne_iff_ne];omega
  have hne:xs ≠ ys:=fun e=>hl (by rw [e])
  have HN:=Lib.hid hne
  clear hne hl
  go_enter Tryz.func46,Tryz.ntmps46
  go_wp2
  go_ret
  exact ⟨ret_bool (by simp [HN.out]),Below.refl _ _⟩
end Go.Proofs.YtioijfplbgpjpaaGreat
namespace Go.Proofs.YtioijfplbgpjpaaGreat
set_option linter.unusedVariables false
set_option linter.unusedSimpArgs false
set_option maxRecDepth 100000
open Go.RowKit
def placeB (b:Box) (s:Spot):Bool:=inB b.w 0 2000 && (inB b.d 0 2000 && (inB b.h 0 2000 && (inB s.x 0 2000 && (inB s.y 0 2000 && inB s.z 0 2000))))
def withinB (p:Pallet) (b:Box) (s:Spot):Bool:=placeB b s && (decide (0 < b.w) && (decide (0 < b.d) && (decide (0 < b.h) && (decide (s.x + b.w≤p.w) && (decide (s.y + b.d≤p.d) && decide (s.z + b.h≤p.h))))))
def crossB (a la b lb:Int):Bool:=decide (a < b + lb) && decide (b < a + la)
def overB (a:Box) (s:Spot) (b:Box) (t:Spot):Bool:=placeB a s && (placeB b t && (s.pallet == t.pallet && (crossB s.x a.w t.x b.w && (crossB s.y a.d t.y b.d && crossB s.z a.h t.z b.h))))
def intsN (n:Nat):List Int:=(List.range n).map Int.ofNat
def onAt (x:Plan) (k:Int) (i:Nat):Bool:=(x.spots.getD i default).pallet == k
def onPal (x:Plan) (k:Int):List Int:=if x.cartons.length=x.spots.length then ((List.range x.spots.length).filter (onAt x k)).map Int.ofNat else []
def cartAt (x:Plan) (i:Int):Carton:=x.cartons.getD i.toNat default
def spotAt (x:Plan) (i:Int):Spot:=x.spots.getD i.toNat default
def palStepG (r:Request) (x:Plan) (n i:Int):Int:=wrap64 (n + gross r (cartAt x i))
def palGram (r:Request) (x:Plan) (k:Int):Int:=(onPal x k).foldl (palStepG r x) 0
def unitsFit (n:Nat) (flat:List Int):Bool:=decide (sortI flat=intsN n)
def holdsC (r:Request) (c:Carton):Bool:=(typeById r c.type).2 && holdsR r c.units (typeById r c.type).1
def groupIx (gs:List (List Int)) (c:Int):Int:=firstI (fun g=>g.contains c) gs
def groupC (r:Request) (c:Carton):Bool:=c.units.all fun u=>groupIx (groupsR r) (itemOf r (unitsR r) u).1.cls == c.group
def cheapC (r:Request) (c:Carton):Bool:=(cheapest r c.units).2 && (cheapest r c.units).1.id == c.type
def insideI (r:Request) (x:Plan) (i:Nat):Bool:=withinB r.pallet (boxR r (cartAt x i)) (spotAt x i)
def overIJ (r:Request) (x:Plan) (i j:Nat):Bool:=overB (boxR r (cartAt x i)) (spotAt x i) (boxR r (cartAt x j)) (spotAt x j)
def apartI (r:Request) (x:Plan) (i:Nat):Bool:=(List.range i).all fun j=>!overIJ r x i j
def sameG (x:Plan) (l:List Int):Bool:=l.all fun i=>(cartAt x i).group == (cartAt x (l.getD 0 0)).group
def palletK (r:Request) (x:Plan) (k:Nat):Bool:=(decide (0 < (onPal x k).length) && decide (palGram r x k≤r.pallet.gram)) && sameG x (onPal x k)
def cartonsFault (r:Request) (x:Plan):Int:=if x.cartons.all (holdsC r)=true then (if x.cartons.all (groupC r)=true then (if x.cartons.all (cheapC r)=true then 0 else 6) else 5) else 4
def spotsFault (r:Request) (x:Plan):Int:=if (List.range x.cartons.length).all (insideI r x)=true then (if (List.range x.cartons.length).all (apartI r x)=true then (if (List.range (palletsR x.spots).toNat).all (palletK r x)=true then 0 else 9) else 8) else 7
def emptyC (x:Plan):Bool:=x.cartons.any fun c=>decide (c.units.length=0)
def checkR (r:Request) (x:Plan):Int :=
 if soundR r=true then
  (if (planOk x && !emptyC x)=true then
   (if unitsFit (unitsR r).length (x.cartons.flatMap (·.units))=true then
    (if cartonsFault r x=0 then spotsFault r x else cartonsFault r x)
   else 3)
  else 2)
 else 1
def feasible (r:Request) (x:Plan):Bool:=checkR r x == 0
theorem intsN_len (n:Nat):(intsN n).length=n:=by simp [intsN]
theorem intsN_mem {n:Nat} {u:Int} : u∈intsN n↔0≤u∧u < n:=by
 unfold intsN
 rw [List.mem_map]
 constructor
 ·rintro ⟨i,hi,rfl⟩
  have:=List.mem_range.1 hi
  exact ⟨Int.natCast_nonneg i,by show ((i:Int) < n);omega⟩
 ·rintro ⟨h0,h1⟩
  exact ⟨u.toNat,List.mem_range.2 (by omega),by show ((u.toNat:Nat):Int)=u;omega⟩
theorem intsN_lt (n:Nat):(intsN n).Pairwise (· < ·):=by
 unfold intsN
 rw [List.pairwise_map]
 exact (List.pairwise_lt_range (n:=n)).imp (fun h=>by show Int.ofNat _ < Int.ofNat _;simp;omega)
theorem intsN_nodup (n:Nat):(intsN n).Nodup:=(intsN_lt n).imp (fun h=>by omega)
theorem intsN_sorted (n:Nat):(intsN n).Pairwise (·≤·):=by
 unfold intsN
 rw [List.pairwise_map]
 exact (List.pairwise_lt_range (n:=n)).imp (fun h=>by show Int.ofNat _≤Int.ofNat _;simp;omega)
theorem unitsFit_perm {n:Nat} {flat:List Int} : unitsFit n flat=true↔flat.Perm (intsN n):=by
 unfold unitsFit
 rw [decide_eq_true_eq]
 exact ⟨fun h=>h ▸ (sortI_perm flat).symm,fun h=>sortI_of h.symm (intsN_sorted n)⟩
theorem perm_rest:∀ (l flat:List Int),l.Nodup→(∀ u∈l,u∈flat)→∃ rest,flat.Perm (l ++ rest)
 |[],flat,_,_=>⟨flat,List.Perm.refl _⟩
 |a::l,flat,hn,h=>by
  have hn2:=List.nodup_cons.1 hn
  obtain ⟨rest,hr⟩:=perm_rest l (flat.erase a) hn2.2 (fun u hu=>(List.mem_erase_of_ne (fun e=>hn2.1 (by rw [← e];exact hu))).2 (h u (List.mem_cons_of_mem _ hu)))
  exact ⟨rest,(List.perm_cons_erase (h a (List.mem_cons_self))).trans (hr.cons a)⟩
theorem unitsFit_count {n:Nat} {flat:List Int} : unitsFit n flat=(decide (flat.length=n) && (List.range n).all fun u=>decide (flat.count (u:Int)=1)):=by
 rw [Bool.eq_iff_iff,unitsFit_perm]
 simp only [Bool.and_eq_true,decide_eq_true_eq,List.all_eq_true,List.mem_range]
 constructor
 ·intro h
  refine ⟨by rw [h.length_eq,intsN_len],fun u hu=>?_⟩
  rw [h.count_eq,(intsN_nodup n).count]
  rw [if_pos (intsN_mem.2 ⟨by omega,by omega⟩)]
 ·rintro ⟨hl,hc⟩
  obtain ⟨rest,hr⟩:=perm_rest (intsN n) flat (intsN_nodup n) (fun u hu=>by
   obtain ⟨h0,h1⟩:=intsN_mem.1 hu
   have:=hc u.toNat (by omega)
   rw [show ((u.toNat:Nat):Int)=u by omega] at this
   exact List.count_pos_iff.1 (by omega))
  have hl2:=hr.length_eq
  rw [List.length_append,intsN_len] at hl2
  obtain rfl:rest=[]:=List.eq_nil_of_length_eq_zero (by omega)
  simpa using hr
theorem addAt_flat {out:List (List Int)} {k x:Int} (hk:k < out.length):(addAt out k x).flatten.Perm (x::out.flatten):=by
 unfold addAt
 split
 ·rw [List.flatten_append]
  simp only [List.flatten_cons,List.flatten_nil,List.append_nil]
  exact List.perm_append_comm (l₁:=out.flatten) (l₂:=[x])
 ·rename_i h0
  obtain ⟨n,rfl⟩:∃ n:Nat,k=n:=⟨k.toNat,by omega⟩
  have hn:n < out.length:=by omega
  rw [Int.toNat_natCast,List.set_eq_take_append_cons_drop,if_pos hn,List.flatten_append,List.flatten_cons]
  have e:out=out.take n ++ out.getD n default::out.drop (n + 1):=by
   rw [List.getD_eq_getElem?_getD,List.getElem?_eq_getElem hn]
   show out=out.take n ++ out[n]::out.drop (n + 1)
   rw [← List.drop_eq_getElem_cons hn,List.take_append_drop]
  conv=>rhs;rw [e]
  rw [List.flatten_append,List.flatten_cons]
  generalize out.getD n default=g
  refine (List.Perm.append_left _ ?_).trans List.perm_middle
  rw [List.append_assoc]
  exact List.perm_middle
theorem group_fold (ps:List Pair) (present:List Int):∀ (cs:List Int) (out:List (List Int)),(out.flatten ++ cs).Nodup→((cs.foldl (groupStep ps present) out).flatten).Nodup∧∀ u∈(cs.foldl (groupStep ps present) out).flatten,u∈out.flatten ++ cs
 |[],out,h=>⟨by simpa using h,fun u hu=>by simpa using hu⟩
 |c::cs,out,h=>by
  rw [List.foldl_cons]
  by_cases hp:present.contains c=true
  ·have e:groupStep ps present out c=addAt out (firstI (fun g=>joins ps g c) out) c:=by unfold groupStep;rw [if_pos hp]
   have hperm:=addAt_flat (out:=out) (x:=c) (firstFrom_lt (fun g=>joins ps g c) out 0).1
   rw [e]
   have h2:((addAt out (firstI (fun g=>joins ps g c) out) c).flatten ++ cs).Perm (out.flatten ++ c::cs):=(hperm.append_right cs).trans List.perm_middle.symm
   obtain ⟨h3,h4⟩:=group_fold ps present cs _ (h2.nodup_iff.2 h)
   exact ⟨h3,fun u hu=>h2.mem_iff.1 (h4 u hu)⟩
  ·have e:groupStep ps present out c=out:=by unfold groupStep;rw [if_neg hp]
   rw [e]
   have hs:(out.flatten ++ cs).Sublist (out.flatten ++ c::cs):=(List.Sublist.refl _).append (List.sublist_cons_self c cs)
   obtain ⟨h3,h4⟩:=group_fold ps present cs out (h.sublist hs)
   exact ⟨h3,fun u hu=>hs.subset (h4 u hu)⟩
theorem groupsR_nodup (r:Request):(groupsR r).flatten.Nodup:=(group_fold r.pairs (presentR r) clss [] (by decide)).1
theorem groupIx_iff {gs:List (List Int)} (hn:gs.flatten.Nodup) {c g:Int} (h0:0≤g):groupIx gs c=g↔g < gs.length∧(gs.getD g.toNat default).contains c=true:=by
 obtain ⟨n,rfl⟩:∃ n:Nat,g=n:=⟨g.toNat,by omega⟩
 rw [Int.toNat_natCast]
 unfold groupIx firstI firstFrom
 rw [List.drop_zero]
 constructor
 ·intro h
  cases hf:gs.findIdx? (fun g=>g.contains c) with
  |none=>rw [hf] at h;simp at h
  |some i =>
   rw [hf] at h
   have hi:i=n:=by simp at h;omega
   subst hi
   obtain ⟨h1,h2,_⟩:=List.findIdx?_eq_some_iff_getElem.1 hf
   exact ⟨by omega,by rw [List.getD_eq_getElem?_getD,List.getElem?_eq_getElem h1];exact h2⟩
 ·rintro ⟨h1,h2⟩
  have hn1:n < gs.length:=by omega
  rw [List.getD_eq_getElem?_getD,List.getElem?_eq_getElem hn1] at h2
  have h3:gs.findIdx? (fun g=>g.contains c)=some n:=by
   refine List.findIdx?_eq_some_iff_getElem.2 ⟨hn1,h2,fun j hj=>?_⟩
   intro hc
   have hd:=(List.pairwise_flatten.1 hn).2
   have:=List.pairwise_iff_getElem.1 hd j n (by omega) hn1 hj
   exact this c (by simpa using hc) c (by simpa using h2) rfl
  rw [h3]
  simp
end Go.Proofs.YtioijfplbgpjpaaGreat
