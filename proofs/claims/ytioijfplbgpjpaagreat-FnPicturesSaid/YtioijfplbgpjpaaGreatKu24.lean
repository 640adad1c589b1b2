/-
  The program's way of telling units, groups and loads, and the reference's: the same. No program is named here.
-/
import Derived.Test.YtioijfplbgpjpaaGreatKu22
import Derived.Test.YtioijfplbgpjpaaGreatKu06
import Derived.Test.YtioijfplbgpjpaaGreatKu02
import Derived.Laws.CopyOwn
import Derived.Deep.RegionLaw
import Derived.Deep.RegionHeld3
import Derived.Laws.OwnMore
namespace Go.Proofs.YtioijfplbgpjpaaGreat
set_option linter.unusedVariables false
set_option linter.unusedSimpArgs false
set_option maxRecDepth 100000
open Go.RowKit
theorem asc_ext {l l':List Int} (h:l.Pairwise (· < ·)) (h':l'.Pairwise (· < ·)) (hm:∀ u,u∈l↔u∈l'):l=l':=by
 have hp:l.Perm l':=(List.perm_ext_iff_of_nodup (h.imp (fun h=>by omega)) (h'.imp (fun h=>by omega))).2 hm
 exact eq_of_sorted hp (h.imp (fun h=>by omega)) (h'.imp (fun h=>by omega))
theorem kindsM_of {xs l:List Int} (h:l.Pairwise (· < ·)) (hm:∀ u,u∈l↔u∈xs):kindsM xs=l:=asc_ext (kindsM_asc xs) h (fun u=>kindsM_mem.trans (hm u).symm)
theorem clss_asc:clss.Pairwise (· < ·):=by decide
theorem clss_mem {c:Int} : c∈clss↔0≤c∧c≤3:=by
 unfold clss
 simp only [List.mem_cons,List.not_mem_nil,or_false]
 omega
theorem present_kinds {r:Request} (h:soundR r=true):kindsM (r.items.map (·.cls))=presentR r:=by
 refine kindsM_of ?_ (fun u=>?_)
 ·unfold presentR;rw [if_pos h];exact clss_asc.filter _
 ·unfold presentR
  rw [if_pos h,List.mem_filter,List.mem_map]
  unfold hasCls
  rw [List.any_eq_true]
  constructor
  ·rintro ⟨_,x,hx,he⟩
   exact ⟨x,hx,by simpa using he⟩
  ·rintro ⟨x,hx,rfl⟩
   refine ⟨clss_mem.2 ?_,x,hx,by simp⟩
   have h1:=(right_of h).items x hx
   simp only [itemOk,inB,Bool.and_eq_true,decide_eq_true_eq] at h1
   omega
def groupPut (ps:List Pair) (out:List (List Int)) (c:Int):List (List Int):=addAt out (firstI (fun g=>joins ps g c) out) c
def groupStep2 (ps:List Pair) (out:List (List Int)) (c:Int):List (List Int):=if inB c 0 3=true then groupPut ps out c else out
theorem groups_kinds (ps:List Pair) (pr:List Int):(kindsM pr).foldl (groupStep2 ps) []=groupsOn ps pr:=by
 have h1:∀ (cs:List Int) (out:List (List Int)),cs.foldl (groupStep ps pr) out=(cs.filter pr.contains).foldl (groupPut ps) out:=by
  intro cs
  induction cs with
  |nil=>intro out;rfl
  |cons c cs ih =>
   intro out
   rw [List.foldl_cons,ih,List.filter_cons]
   unfold groupStep
   cases h:pr.contains c
   ·rfl
   ·rfl
 have h2:∀ (cs:List Int) (out:List (List Int)),cs.foldl (groupStep2 ps) out=(cs.filter fun c=>inB c 0 3).foldl (groupPut ps) out:=by
  intro cs
  induction cs with
  |nil=>intro out;rfl
  |cons c cs ih =>
   intro out
   rw [List.foldl_cons,ih,List.filter_cons]
   unfold groupStep2
   cases h:inB c 0 3
   ·rfl
   ·rfl
 unfold groupsOn
 rw [h1,h2]
 congr 1
 refine asc_ext ((kindsM_asc pr).filter _) (clss_asc.filter _) (fun u=>?_)
 rw [List.mem_filter,List.mem_filter,kindsM_mem,clss_mem]
 simp only [inB,Bool.and_eq_true,decide_eq_true_eq,List.contains_iff_mem]
 exact ⟨fun h=>⟨h.2,h.1⟩,fun h=>⟨h.2,h.1⟩⟩
def itemsOfR (r:Request) (us:List Int):List Item:=(knownR (unitsC r) us).map fun u=>(itemOf r (unitsC r) u).1
def volStep (n:Int) (x:Item):Int:=wrap64 (n + vol x.w x.h x.d)
def volOfR (r:Request) (us:List Int):Int:=(itemsOfR r us).foldl volStep 0
def gramStepI (n:Int) (x:Item):Int:=wrap64 (n + x.gram)
def gramOfR (r:Request) (us:List Int):Int:=(itemsOfR r us).foldl gramStepI 0
theorem wrap_wrap (n:Int):wrap64 (wrap64 n)=wrap64 n:=by unfold wrap64;omega
theorem wrap_zero:wrap64 0=0:=by unfold wrap64;omega
theorem vol_zero:vol 0 0 0=0:=by
 unfold vol
 rw [if_pos (by decide)]
 simp [wrap_zero]
theorem itemOf_out {r:Request} {all:List Int} {u:Int} (h:inB u 0 (all.length - 1)=false):itemOf r all u=(default,false):=by unfold itemOf;rw [h];rfl
theorem itemOf_in {r:Request} {all:List Int} {u:Int} (h:inB u 0 (all.length - 1)=true):itemOf r all u=(r.items.getD (all.getD u.toNat 0).toNat default,true):=by unfold itemOf;rw [h];rfl
theorem load_items (r:Request) (all:List Int):∀ (us:List Int) (a b:Int),wrap64 a=a→wrap64 b=b →
  us.foldl (loadStep r all) (a,b)=(((knownR all us).map fun u=>(itemOf r all u).1).foldl volStep a,((knownR all us).map fun u=>(itemOf r all u).1).foldl gramStepI b)
 |[],a,b,_,_=>rfl
 |u::us,a,b,ha,hb=>by
  rw [List.foldl_cons]
  cases h:inB u 0 (all.length - 1)
  ·have e:loadStep r all (a,b) u=(a,b):=by
    unfold loadStep
    rw [itemOf_out h]
    show (wrap64 (a + vol 0 0 0),wrap64 (b + 0))=(a,b)
    rw [vol_zero,Int.add_zero,Int.add_zero,ha,hb]
   have e2:knownR all (u::us)=knownR all us:=by unfold knownR;rw [List.filter_cons,h];rfl
   rw [e,e2]
   exact load_items r all us a b ha hb
  ·have e2:knownR all (u::us)=u::knownR all us:=by unfold knownR;rw [List.filter_cons,h];rfl
   rw [e2,List.map_cons,List.foldl_cons,List.foldl_cons]
   exact load_items r all us _ _ (wrap_wrap _) (wrap_wrap _)
theorem load_of_items (r:Request) (us:List Int):loadOf r (unitsC r) us=(volOfR r us,gramOfR r us):=by
 unfold loadOf volOfR gramOfR itemsOfR
 exact load_items r (unitsC r) us 0 0 wrap_zero wrap_zero
theorem gram_items (r:Request):∀ (us:List Int) (b:Int),wrap64 b=b→us.foldl (gramStep r) b=(itemsOfR r us).foldl gramStepI b
 |[],b,_=>rfl
 |u::us,b,hb=>by
  rw [List.foldl_cons]
  unfold itemsOfR
  cases h:inB u 0 ((unitsC r).length - 1)
  ·have e:gramStep r b u=b:=by
    unfold gramStep
    rw [itemOf_out h]
    show wrap64 (b + 0)=b
    rw [Int.add_zero,hb]
   have e2:knownR (unitsC r) (u::us)=knownR (unitsC r) us:=by unfold knownR;rw [List.filter_cons,h];rfl
   rw [e,e2]
   exact gram_items r us b hb
  ·have e2:knownR (unitsC r) (u::us)=u::knownR (unitsC r) us:=by unfold knownR;rw [List.filter_cons,h];rfl
   rw [e2,List.map_cons,List.foldl_cons]
   exact gram_items r us _ (wrap_wrap _)
theorem gramOf_items (r:Request) (us:List Int):gramOf r us=gramOfR r us:=gram_items r us 0 wrap_zero
theorem unitsC_of {r:Request} (h:soundR r=true):unitsC r=unitsR r:=by unfold unitsC;rw [if_pos h]
def withinR (r:Request) (us:List Int) (t:GType):Bool:=decide (volOfR r us≤vol t.w t.h t.d) && decide (gramOfR r us≤t.gram)
def holdsI (r:Request) (us:List Int) (t:GType):Bool:=(soundR r && decide ((knownR (unitsC r) us).length=us.length)) && (!((itemsOfR r us).any fun x=>!fits x t) && withinR r us t)
theorem known_len {all us:List Int} : (knownR all us).length=us.length↔∀ u∈us,inB u 0 (all.length - 1)=true:=by
 unfold knownR
 rw [← List.filter_eq_self]
 constructor
 ·intro h;exact (List.filter_sublist (p:=fun u=>inB u 0 (all.length - 1)) (l:=us)).eq_of_length h
 ·intro h;rw [h]
theorem holds_items (r:Request) (us:List Int) (t:GType):holdsI r us t=holdsR r us t:=by
 unfold holdsI holdsR
 cases hs:soundR r
 ·rfl
 ·have hl:withinR r us t=loadFits (loadOf r (unitsR r) us) t:=by
   unfold withinR loadFits
   rw [← unitsC_of hs,load_of_items]
  rw [hl,Bool.true_and,Bool.true_and]
  rw [← Bool.and_assoc]
  congr 1
  rw [Bool.eq_iff_iff]
  simp only [Bool.and_eq_true,decide_eq_true_eq,Bool.not_eq_true',List.any_eq_false,List.all_eq_true,known_len,unitsC_of hs]
  constructor
  ·rintro ⟨h1,h2⟩ u hu
   have h3:=h1 u hu
   unfold holdsOne
   rw [itemOf_in h3]
   have h4:=h2 (itemOf r (unitsR r) u).1 (by unfold itemsOfR;rw [unitsC_of hs];exact List.mem_map.2 ⟨u,List.mem_filter.2 ⟨hu,h3⟩,rfl⟩)
   rw [itemOf_in h3] at h4
   simpa using h4
  ·intro h
   refine ⟨fun u hu=>?_,fun x hx=>?_⟩
   ·have h1:=h u hu
    unfold holdsOne at h1
    cases h3:inB u 0 ((unitsR r).length - 1)
    ·rw [itemOf_out h3] at h1;simp at h1
    ·rfl
   ·unfold itemsOfR at hx
    rw [unitsC_of hs] at hx
    obtain ⟨u,hu,rfl⟩:=List.mem_map.1 hx
    have h1:=h u (List.mem_filter.1 hu).1
    unfold holdsOne at h1
    simp only [Bool.and_eq_true] at h1
    simp [h1.2]
end Go.Proofs.YtioijfplbgpjpaaGreat
namespace Go.Proofs.YtioijfplbgpjpaaGreat
set_option linter.unusedVariables false
set_option linter.unusedSimpArgs false
set_option maxRecDepth 100000
open Go.RowKit Go.WideShapes Go.ChangeShapes Go.ChangeAt Go.Deep
def crossW (a la b lb:Int):Bool:=decide (a < wrap64 (b + lb)) && decide (b < wrap64 (a + la))
theorem wrap_small {n:Int} (h0 : -9223372036854775808≤n) (h1:n≤9223372036854775807):wrap64 n=n:=by unfold wrap64;omega
theorem placeB_iff {b:Box} {s:Spot} : placeB b s=true↔(0≤b.w∧b.w≤2000)∧(0≤b.d∧b.d≤2000)∧(0≤b.h∧b.h≤2000)∧(0≤s.x∧s.x≤2000)∧(0≤s.y∧s.y≤2000)∧(0≤s.z∧s.z≤2000):=by
 simp only [placeB,inB,Bool.and_eq_true,decide_eq_true_eq]
theorem crossW_eq {a la b lb:Int} (h1:0≤a∧a≤2000) (h2:0≤la∧la≤2000) (h3:0≤b∧b≤2000) (h4:0≤lb∧lb≤2000):crossW a la b lb=crossB a la b lb:=by
 unfold crossW crossB
 rw [wrap_small (by omega) (by omega),wrap_small (by omega) (by omega)]
theorem over_and {a b:Box} {s t:Spot} : overB a s b t=(placeB a s && (placeB b t && (s.pallet == t.pallet && (crossW s.x a.w t.x b.w && (crossW s.y a.d t.y b.d && crossW s.z a.h t.z b.h))))):=by
 unfold overB
 cases h1:placeB a s
 ·rfl
 ·cases h2:placeB b t
  ·rfl
  ·obtain ⟨a1,a2,a3,a4,a5,a6⟩:=placeB_iff.1 h1
   obtain ⟨b1,b2,b3,b4,b5,b6⟩:=placeB_iff.1 h2
   rw [crossW_eq a4 a1 b4 b1,crossW_eq a5 a2 b5 b2,crossW_eq a6 a3 b6 b3]
theorem within_spec {p:Pallet} {b:Box} {s:Spot} : withinB p b s=(placeB b s && (decide (0 < b.w) && (decide (0 < b.d) && (decide (0 < b.h) && (decide (wrap64 (s.x + b.w)≤p.w) && (decide (wrap64 (s.y + b.d)≤p.d) && decide (wrap64 (s.z + b.h)≤p.h))))))):=by
 unfold withinB
 cases h1:placeB b s
 ·rfl
 ·obtain ⟨a1,a2,a3,a4,a5,a6⟩:=placeB_iff.1 h1
  rw [wrap_small (n:=s.x + b.w) (by omega) (by omega),wrap_small (n:=s.y + b.d) (by omega) (by omega),wrap_small (n:=s.z + b.h) (by omega) (by omega)]
theorem within_impl {p:Pallet} {b:Box} {s:Spot} : withinB p b s=(inB s.x 0 2000 && (inB s.y 0 2000 && (inB s.z 0 2000 && (sideOk b.w && (sideOk b.d && (sideOk b.h && (decide (wrap64 (s.x + b.w)≤p.w) && (decide (wrap64 (s.y + b.d)≤p.d) && decide (wrap64 (s.z + b.h)≤p.h))))))))):=by
 rw [within_spec,Bool.eq_iff_iff]
 simp only [placeB,sideOk,inB,Bool.and_eq_true,decide_eq_true_eq]
 generalize wrap64 (s.x + b.w)=q1
 generalize wrap64 (s.y + b.d)=q2
 generalize wrap64 (s.z + b.h)=q3
 omega
set_option maxRecDepth 100000 in
set_option maxHeartbeats 1000000 in
theorem iVolume_any (a b c:Int) (w:World):Calls Tryz.prog 72 #[.int .i64 a,.int .i64 b,.int .i64 c] w fun e w'=>e=.returned (.int .i64 (vol a b c))∧w=w':=by
 obtain ⟨b1,h1⟩:∃ q,inB a 0 2000=q:=⟨_,rfl⟩
 obtain ⟨b2,h2⟩:∃ q,inB b 0 2000=q:=⟨_,rfl⟩
 obtain ⟨b3,h3⟩:∃ q,inB c 0 2000=q:=⟨_,rfl⟩
 have HV:=Lib.hid (show vol a b c=if (b1 && b2 && b3)=true then wrap64 (wrap64 (a * b) * c) else 0 by unfold vol;rw [h1,h2,h3])
 have H1:=Lib.hid h1
 have H2:=Lib.hid h2
 have H3:=Lib.hid h3
 clear h1 h2 h3
 go_enter Tryz.func72,Tryz.ntmps72
 cases b1 <;> cases b2 <;> cases b3 <;> (go_wp2_with (go_at_call 114;refine (in_any _ _ _ _).mono ?_;rintro e w' ⟨rfl,rfl⟩;first | rw [H1.out] | rw [H2.out] | rw [H3.out]);go_ret;exact ⟨by rw [HV.out];rfl,rfl⟩)
set_option maxHeartbeats 400000 in
theorem iCross_any (a la b lb:Int) (w:World):Calls Tryz.prog 185 #[.int .i64 a,.int .i64 la,.int .i64 b,.int .i64 lb] w fun e w'=>e=.returned (.bool (crossW a la b lb))∧w=w':=by
 obtain ⟨b1,h1⟩:∃ q,decide (a < wrap64 (b + lb))=q:=⟨_,rfl⟩
 have HM:=Lib.hid (show crossW a la b lb=(b1 && decide (b < wrap64 (a + la))) by unfold crossW;rw [h1])
 have h2:decide (a < IntKind.i64.wrap (b + lb))=b1:=by rw [wrapE];exact h1
 go_enter Tryz.func185,Tryz.ntmps185
 cases b1
 all_goals go_wp2
 all_goals go_ret
 all_goals exact ⟨by rw [HM.out];simp only [wrapE];rfl,rfl⟩
set_option maxHeartbeats 400000 in
theorem sCross_any (a la b lb:Int) (w:World):Calls Tryz.prog 183 #[.int .i64 a,.int .i64 la,.int .i64 b,.int .i64 lb] w fun e w'=>e=.returned (.bool (crossW a la b lb))∧w=w':=by
 obtain ⟨b1,h1⟩:∃ q,decide (a < wrap64 (b + lb))=q:=⟨_,rfl⟩
 have HM:=Lib.hid (show crossW a la b lb=(b1 && decide (b < wrap64 (a + la))) by unfold crossW;rw [h1])
 have h2:decide (a < IntKind.i64.wrap (b + lb))=b1:=by rw [wrapE];exact h1
 go_enter Tryz.func183,Tryz.ntmps183
 cases b1
 all_goals go_wp2
 all_goals go_ret
 all_goals exact ⟨by rw [HM.out];simp only [wrapE];rfl,rfl⟩
set_option maxHeartbeats 1000000 in
theorem iPlaced_any (b:Box) (s:Spot) (w:World):Calls Tryz.prog 184 #[b.val,s.val] w fun e w'=>e=.returned (.bool (placeB b s))∧Below w.heap.size w w':=by
 go_enter Tryz.func184,Tryz.ntmps184
 go_wp2_with (go_at_call 241;refine (isPlace_any _ _).mono ?_;rintro e w' ⟨rfl,rfl⟩)
 all_goals go_ret
 all_goals exact ⟨ret_bool (by simp [placeB, *]),(by repeat' with_reducible first | assumption | exact bR | apply bD | apply bA | apply bC | apply bN | simp <;> omega)⟩
set_option maxHeartbeats 1000000 in
theorem sKnown_any (b:Box) (s:Spot) (w:World):Calls Tryz.prog 182 #[b.val,s.val] w fun e w'=>e=.returned (.bool (placeB b s))∧Below w.heap.size w w':=by
 go_enter Tryz.func182,Tryz.ntmps182
 go_wp2_with (go_at_call 104;refine (l1In_any _ _ _ _).mono ?_;rintro e w' ⟨rfl,rfl⟩)
 all_goals go_ret
 all_goals exact ⟨ret_bool (by simp [placeB, *]),(by repeat' with_reducible first | assumption | exact bR | apply bD | apply bA | apply bC | apply bN | simp <;> omega)⟩
set_option maxHeartbeats 1000000 in
theorem iWithin_any (p:Pallet) (b:Box) (s:Spot) (w:World):Calls Tryz.prog 272 #[p.val,b.val,s.val] w fun e w'=>e=.returned (.bool (withinB p b s))∧Below w.heap.size w w':=by
 have HM:=Lib.hid (within_impl (p:=p) (b:=b) (s:=s))
 go_enter Tryz.func272,Tryz.ntmps272
 go_wp2_with (first | (go_at_call 325;refine (isSide_any _ _).mono ?_;rintro e w' ⟨rfl,rfl⟩) | (go_at_call 241;refine (isPlace_any _ _).mono ?_;rintro e w' ⟨rfl,rfl⟩))
 all_goals (try simp only [Bool.not_eq_true',Bool.not_eq_false'] at *)
 all_goals go_ret
 all_goals exact ⟨ret_bool (by rw [HM.out];(try simp only [wrapE] at *);(simp [*] <;> omega)),(by repeat' with_reducible first | assumption | exact bR | apply bD | apply bA | apply bC | apply bN | simp <;> omega)⟩
set_option maxHeartbeats 1000000 in
theorem sWithin_any (p:Pallet) (b:Box) (s:Spot) (w:World):Calls Tryz.prog 257 #[p.val,b.val,s.val] w fun e w'=>e=.returned (.bool (withinB p b s))∧Below w.heap.size w w':=by
 obtain ⟨q,hq⟩:∃ q,placeB b s=q:=⟨_,rfl⟩
 have HM:=Lib.hid (within_spec (p:=p) (b:=b) (s:=s))
 rw [hq] at HM
 have HQ:=Lib.hid hq
 clear hq
 have hS:=(((Sit.here w).alloc #[.int .i64 p.w,.int .i64 p.d,.int .i64 p.h,.int .i64 p.gram] 36).alloc #[.int .i64 b.w,.int .i64 b.d,.int .i64 b.h,.int .i64 b.gram] 75).alloc #[.int .i64 s.pallet,.int .i64 s.x,.int .i64 s.y,.int .i64 s.z] 72
 simp only [World.size_alloc] at hS
 have SN:=Lib.hid hS
 clear hS
 go_enter Tryz.func257,Tryz.ntmps257
 have k0:=SN.out.box (.tail _ (.tail _ (.head _)))
 have k1:=SN.out.box (.tail _ (.head _))
 have k2:=SN.out.box (.head _)
 go_wp2_with fail
 refine (sKnown_any b s _).mono ?_
 rintro e w1 ⟨rfl,hb1⟩
 rw [HQ.out]
 have SN:=Lib.hid (SN.out.next hb1)
 clear k0 k1 k2 hb1
 have k0:=SN.out.box (.tail _ (.tail _ (.head _)))
 have k1:=SN.out.box (.tail _ (.head _))
 have k2:=SN.out.box (.head _)
 cases q
 ·go_wp2
  go_ret
  exact ⟨by rw [HM.out];rfl,SN.out.low⟩
 ·go_wp2
  all_goals (try simp only [Bool.not_eq_true',Bool.not_eq_false'] at *)
  all_goals go_ret
  all_goals exact ⟨ret_bool (by rw [HM.out];(try simp only [wrapE] at *);(simp [*] <;> omega)),SN.out.low⟩
set_option maxHeartbeats 1000000 in
theorem iOverlap_any (a:Box) (s:Spot) (b:Box) (t:Spot) (w:World):Calls Tryz.prog 115 #[a.val,s.val,b.val,t.val] w fun e w'=>e=.returned (.bool (overB a s b t))∧Below w.heap.size w w':=by
 have hM:=over_and (a:=a) (b:=b) (s:=s) (t:=t)
 obtain ⟨q1,h1⟩:∃ q,placeB a s=q:=⟨_,rfl⟩
 obtain ⟨q2,h2⟩:∃ q,placeB b t=q:=⟨_,rfl⟩
 obtain ⟨q4,h4⟩:∃ q,crossW s.x a.w t.x b.w=q:=⟨_,rfl⟩
 obtain ⟨q5,h5⟩:∃ q,crossW s.y a.d t.y b.d=q:=⟨_,rfl⟩
 obtain ⟨q6,h6⟩:∃ q,crossW s.z a.h t.z b.h=q:=⟨_,rfl⟩
 rw [h1,h2,h4,h5,h6] at hM
 have HM:=Lib.hid hM
 have H1:=Lib.hid h1
 have H2:=Lib.hid h2
 have H4:=Lib.hid h4
 have H5:=Lib.hid h5
 have H6:=Lib.hid h6
 clear hM h1 h2 h4 h5 h6
 have hS:=((((Sit.here w).alloc #[.int .i64 a.w,.int .i64 a.d,.int .i64 a.h,.int .i64 a.gram] 75).alloc #[.int .i64 s.pallet,.int .i64 s.x,.int .i64 s.y,.int .i64 s.z] 72).alloc #[.int .i64 b.w,.int .i64 b.d,.int .i64 b.h,.int .i64 b.gram] 75).alloc #[.int .i64 t.pallet,.int .i64 t.x,.int .i64 t.y,.int .i64 t.z] 72
 simp only [World.size_alloc] at hS
 have SN:=Lib.hid hS
 clear hS
 go_enter Tryz.func115,Tryz.ntmps115
 have k0:=SN.out.box (.tail _ (.tail _ (.tail _ (.head _))))
 have k1:=SN.out.box (.tail _ (.tail _ (.head _)))
 have k2:=SN.out.box (.tail _ (.head _))
 have k3:=SN.out.box (.head _)
 go_wp2_with fail
 refine (iPlaced_any a s _).mono ?_
 rintro e w1 ⟨rfl,hb1⟩
 rw [H1.out]
 have SN:=Lib.hid (SN.out.next hb1)
 clear k0 k1 k2 k3 hb1
 cases q1
 ·go_wp2
  go_ret
  exact ⟨by rw [HM.out];rfl,SN.out.low⟩
 have k0:=SN.out.box (.tail _ (.tail _ (.tail _ (.head _))))
 have k1:=SN.out.box (.tail _ (.tail _ (.head _)))
 have k2:=SN.out.box (.tail _ (.head _))
 have k3:=SN.out.box (.head _)
 go_wp2_with fail
 refine (iPlaced_any b t _).mono ?_
 rintro e w2 ⟨rfl,hb2⟩
 rw [H2.out]
 have SN:=Lib.hid (SN.out.next hb2)
 clear k0 k1 k2 k3 hb2
 cases q2
 ·go_wp2
  go_ret
  exact ⟨by rw [HM.out];rfl,SN.out.low⟩
 have k0:=SN.out.box (.tail _ (.tail _ (.tail _ (.head _))))
 have k1:=SN.out.box (.tail _ (.tail _ (.head _)))
 have k2:=SN.out.box (.tail _ (.head _))
 have k3:=SN.out.box (.head _)
 obtain ⟨q3,h3⟩:∃ q,(s.pallet == t.pallet)=q:=⟨_,rfl⟩
 rw [h3] at HM
 have h3':(s.pallet != t.pallet) = !q3:=by rw [← h3];rfl
 cases q3
 ·go_wp2
  go_ret
  exact ⟨by rw [HM.out];rfl,SN.out.low⟩
 cases q4 <;> cases q5 <;> cases q6
 all_goals go_wp2_with (go_at_call 185;refine (iCross_any _ _ _ _ _).mono ?_;rintro e w' ⟨rfl,rfl⟩;first | rw [H4.out] | rw [H5.out] | rw [H6.out])
 all_goals go_ret
 all_goals exact ⟨by rw [HM.out];rfl,SN.out.low⟩
set_option maxHeartbeats 1000000 in
theorem sOverlap_any (a:Box) (s:Spot) (b:Box) (t:Spot) (w:World):Calls Tryz.prog 113 #[a.val,s.val,b.val,t.val] w fun e w'=>e=.returned (.bool (overB a s b t))∧Below w.heap.size w w':=by
 have hM:=over_and (a:=a) (b:=b) (s:=s) (t:=t)
 obtain ⟨q1,h1⟩:∃ q,placeB a s=q:=⟨_,rfl⟩
 obtain ⟨q2,h2⟩:∃ q,placeB b t=q:=⟨_,rfl⟩
 obtain ⟨q4,h4⟩:∃ q,crossW s.x a.w t.x b.w=q:=⟨_,rfl⟩
 obtain ⟨q5,h5⟩:∃ q,crossW s.y a.d t.y b.d=q:=⟨_,rfl⟩
 obtain ⟨q6,h6⟩:∃ q,crossW s.z a.h t.z b.h=q:=⟨_,rfl⟩
 rw [h1,h2,h4,h5,h6] at hM
 have HM:=Lib.hid hM
 have H1:=Lib.hid h1
 have H2:=Lib.hid h2
 have H4:=Lib.hid h4
 have H5:=Lib.hid h5
 have H6:=Lib.hid h6
 clear hM h1 h2 h4 h5 h6
 have hS:=((((Sit.here w).alloc #[.int .i64 a.w,.int .i64 a.d,.int .i64 a.h,.int .i64 a.gram] 75).alloc #[.int .i64 s.pallet,.int .i64 s.x,.int .i64 s.y,.int .i64 s.z] 72).alloc #[.int .i64 b.w,.int .i64 b.d,.int .i64 b.h,.int .i64 b.gram] 75).alloc #[.int .i64 t.pallet,.int .i64 t.x,.int .i64 t.y,.int .i64 t.z] 72
 simp only [World.size_alloc] at hS
 have SN:=Lib.hid hS
 clear hS
 go_enter Tryz.func113,Tryz.ntmps113
 have k0:=SN.out.box (.tail _ (.tail _ (.tail _ (.head _))))
 have k1:=SN.out.box (.tail _ (.tail _ (.head _)))
 have k2:=SN.out.box (.tail _ (.head _))
 have k3:=SN.out.box (.head _)
 go_wp2_with fail
 refine (sKnown_any a s _).mono ?_
 rintro e w1 ⟨rfl,hb1⟩
 rw [H1.out]
 have SN:=Lib.hid (SN.out.next hb1)
 clear k0 k1 k2 k3 hb1
 cases q1
 ·go_wp2
  go_ret
  exact ⟨by rw [HM.out];rfl,SN.out.low⟩
 have k0:=SN.out.box (.tail _ (.tail _ (.tail _ (.head _))))
 have k1:=SN.out.box (.tail _ (.tail _ (.head _)))
 have k2:=SN.out.box (.tail _ (.head _))
 have k3:=SN.out.box (.head _)
 go_wp2_with fail
 refine (sKnown_any b t _).mono ?_
 rintro e w2 ⟨rfl,hb2⟩
 rw [H2.out]
 have SN:=Lib.hid (SN.out.next hb2)
 clear k0 k1 k2 k3 hb2
 cases q2
 ·go_wp2
  go_ret
  exact ⟨by rw [HM.out];rfl,SN.out.low⟩
 have k0:=SN.out.box (.tail _ (.tail _ (.tail _ (.head _))))
 have k1:=SN.out.box (.tail _ (.tail _ (.head _)))
 have k2:=SN.out.box (.tail _ (.head _))
 have k3:=SN.out.box (.head _)
 obtain ⟨q3,h3⟩:∃ q,(s.pallet == t.pallet)=q:=⟨_,rfl⟩
 rw [h3] at HM
 cases q3
 ·go_wp2
  go_ret
  exact ⟨by rw [HM.out];rfl,SN.out.low⟩
 cases q4 <;> cases q5 <;> cases q6
 all_goals go_wp2_with (go_at_call 183;refine (sCross_any _ _ _ _ _).mono ?_;rintro e w' ⟨rfl,rfl⟩;first | rw [H4.out] | rw [H5.out] | rw [H6.out])
 all_goals go_ret
 all_goals exact ⟨by rw [HM.out];rfl,SN.out.low⟩
set_option maxRecDepth 100000 in
set_option maxHeartbeats 1000000 in
theorem iPallets_any (v:Value) (xs:List Spot) (w:World) (h:RSpots 16777216 w w.heap.size v xs):Calls Tryz.prog 83 #[v] w fun e w'=>e=.returned (.int .i64 (palletsR xs))∧Below w.heap.size w w':=by
 have HS:=Lib.hid h
 obtain ⟨E,e,rfl,hbd,_⟩:=h
 go_enter Tryz.func83,Tryz.ntmps83
 go_wp2
 go_loopw [3,8] (fun n i wr=>∃ (k:Nat),k≤xs.length∧i=.int .i64 k∧n=.int .i64 ((xs.take k).foldl palStep 0)∧Hid (Below w.heap.size w wr)) (fun _ i _=>xs.length - (intOf i).toNat)
 case atStart=>exact ⟨0,Nat.zero_le _,rfl,rfl,Lib.hid (Below.refl _ _)⟩
 case round =>
  obtain ⟨k,hk,rfl,rfl,HB⟩:=hrel
  by_cases hlt:k < xs.length
  ·obtain ⟨b,off,x,_,rfl,hb,hx,_,rfl,hc⟩:=(HS.out.next (flat_mono _) HB.out).at_ k hlt
   have hc0:=hc 0 _ rfl;have hc1:=hc 1 _ rfl;have hc2:=hc 2 _ rfl;have hc3:=hc 3 _ rfl;simp only [Nat.add_zero] at hc0
   have HST:=Lib.hid (foldl_take_step (f:=palStep) (b:=0) hx)
   obtain ⟨G,hG⟩:∃ G,(xs.take k).foldl palStep 0=G:=⟨_,rfl⟩
   obtain ⟨f,hf⟩:∃ f,inB x.pallet 0 999999=f:=⟨_,rfl⟩
   have HF:=Lib.hid hf
   have HG:=Lib.hid (show palStep G x=if f=true then max G (wrap64 (x.pallet + 1)) else G by unfold palStep;rw [hf])
   rw [hG] at HST ⊢
   have HB2:=Lib.hid (HB.out.alloc HB.out.size (.cells #[.int .i64 x.pallet,.int .i64 x.x,.int .i64 x.y,.int .i64 x.z] 72))
   clear hc hx hG hf
   cases f
   all_goals go_wp2_with (go_at_call 114;refine (in_any _ _ _ _).mono ?_;rintro e w' ⟨rfl,rfl⟩;rw [HF.out])
   all_goals go_roundw
   all_goals first | (case rel=>exact ⟨k + 1,hlt,by go_num,by rw [HST.out,HG.out];(try simp only [wrapE]);rfl,HB2⟩) | (case measure=>simp [intOf] <;> omega)
  ·have HM:=Lib.hid (show (xs.take k).foldl palStep 0=palletsR xs by rw [List.take_of_length_le (by omega)];rfl)
   rw [HM.out]
   go_wp2
   go_ret
   exact ⟨rfl,HB.out⟩
end Go.Proofs.YtioijfplbgpjpaaGreat
namespace Go.Proofs.YtioijfplbgpjpaaGreat
set_option linter.unusedVariables false
set_option linter.unusedSimpArgs false
set_option maxRecDepth 100000
open Go.RowKit Go.WideShapes Go.ChangeShapes Go.ChangeAt Go.Deep
theorem one_src {w:World} {b off:Nat} {v:Value} (h:w.cell? ⟨b,off,none⟩=some v) (j:Nat) (u:Value) (hu:[v][j]? = some u):w.cell? ((⟨b,off,none⟩:Addr).add j)=some u:=by
 have hj:j=0:=by rcases j with _ | j <;> simp at hu;rfl
 subst hj
 simp at hu
 subst hu
 rw [addr_add,Nat.add_zero]
 exact h
theorem cell_heap {W W':World} {b o:Nat} (h:W'.heap[b]? = W.heap[b]?):W'.cell? ⟨b,o,none⟩=W.cell? ⟨b,o,none⟩:=by unfold World.cell?;rw [h]
theorem Sit.subl {w W:World} {L L':List Fact} (h:Sit w W L) (hs:L'.Sublist L):Sit w W L':=⟨h.low,fun q hq=>h.ok q (hs.subset hq),fun q hq=>h.on q (hs.subset hq),fun q hq=>h.lt q (hs.subset hq),h.apart.sublist hs⟩
theorem made_ints (n:Nat):(madeCells #[.int .i64 0] (n * 1)).toList=(List.replicate n (0:Int)).flatMap cI:=by
 have h1:(madeCells #[.int .i64 0] (n * 1)).toList=List.replicate n (Value.int .i64 0):=by
  refine List.eq_replicate_iff.2 ⟨by simp [madeCells],fun b hb=>?_⟩
  simp only [madeCells,Array.toList_map,List.mem_map] at hb
  obtain ⟨i,_,rfl⟩:=hb
  show (#[Value.int .i64 0]:Array Value)[i % 1]! = _
  rw [Nat.mod_one]
  rfl
 rw [h1,flat_cI]
 simp
theorem mk_Int {ops:Array Oper} {rest:List Oper} {o:Oper} {a:Act} {Q:Exit→Act→World→Prop} {w:World} (l c:Operand) (hgd:o.guard=none) (ho:o.op=Op.makeSlice 53 l c) (n:Nat) (hl:a.eval l=.int .i64 (n:Int)) (hc:a.eval c=.int .i64 (n:Int)) (hn:n≤1048576) {base:Nat} (hbase:base≤w.heap.size)
  (h:∀ v' w',AppOF cI 3 1 w base (List.replicate n 0) [] v' w'→wpList Tryz.prog ops Q rest (a.put o.dst v') w'):wpList Tryz.prog ops Q (o::rest) a w:=by
 obtain ⟨i0,hi,hz0,hz1,hz2⟩:=info_parts info_int
 refine wpList_plain hgd fun K hK=>?_
 obtain ⟨w',hrun,h1,h2⟩:=run_makeSlice_full (P:=Tryz.prog) w base 53 3 i0 _ 1 Tryz.underlying53 hi hz0 hz1 .i64 .i64 n (by omega) (by rw [hz2];omega) (by unfold maxLen;omega) hbase
 unfold Oper.wp
 simp [execOp,ho,hl,hc,hrun,Result.andThen]
 refine hK _ _ (h _ _ (OF.app_of_row (v:=.slice none 0 0) (n:=n) ?_ (by simp) h2 (.inr rfl) rfl))
 rw [← made_ints]
 exact h1
def laidRep (x:Int) (n k:Nat):List Int:=List.replicate k x ++ List.replicate (n - k) 0
theorem splice_rep {x:Int} {n k m:Nat} (hm:m≤n - k) (hk:k≤n):splice ((laidRep x n k).map (Value.int .i64)) k (List.replicate m (Value.int .i64 x))=(laidRep x n (k + m)).map (Value.int .i64):=by
 unfold splice laidRep
 simp only [List.map_append,List.map_replicate,List.length_replicate]
 rw [List.take_left' (by simp)]
 rw [show k + m=(List.replicate k (Value.int .i64 x)).length + m by simp,List.drop_append]
 simp only [List.length_replicate,List.drop_replicate]
 rw [← List.append_assoc,List.replicate_append_replicate]
 rw [show k - (k + m)=0 by omega,show n - k - (k + m - k)=n - (k + m) by omega]
 rfl
theorem splice_take {α:Type} {L cs:List α} {k n:Nat} (h:k + cs.length≤n):(splice L k cs).take n=splice (L.take n) k cs:=by
 unfold splice
 rw [List.take_append,List.take_append,List.take_take,List.take_take,Nat.min_eq_right (by omega),Nat.min_eq_left (by omega),List.drop_take,List.length_take]
 rcases Nat.le_total k L.length with hk | hk
 ·rw [Nat.min_eq_left hk,List.take_of_length_le (l:=cs) (by omega),show n - k - cs.length=n - (k + cs.length) by omega]
 ·rw [Nat.min_eq_right hk,List.drop_eq_nil_of_le (by omega),List.take_of_length_le (l:=cs) (by omega)]
  simp
set_option maxRecDepth 100000 in
set_option maxHeartbeats 1000000 in
theorem repeatInt_any (v:Value) (x:Int) (n:Nat) (w:World) (h:RInts 16777216 w w.heap.size v [x]) (h0:1≤n) (h1:n≤100):Calls Tryz.prog 150 #[v,.int .i64 n] w (MInts w (List.replicate n x)):=by
 obtain ⟨b,off,c,rfl,hb,hc⟩:∃ b off c,v=.slice (some ⟨b,off,none⟩) 1 c∧b < w.heap.size∧w.cell? ⟨b,off,none⟩=some (.int .i64 x):=by
  obtain ⟨A,c,rfl,hbd,hA⟩:=h
  obtain ⟨b,off,rfl,hb,hc⟩:=hA (by simp)
  obtain ⟨cs,_,rfl,hcs⟩:=hc 0 x rfl
  exact ⟨b,off,c,rfl,hb,by simpa using hcs 0 _ rfl⟩
 clear h
 have hmul:=Tryz.bits_Mul 1 n (by omega) (by omega) w
 have e1:1 * n / 18446744073709551616=0:=by omega
 have e2:1 * n % 18446744073709551616=n:=by omega
 rw [e1,e2] at hmul
 have HMU:=Lib.hid (show Calls Tryz.prog 212 #[.int .u64 ((1:Nat):Int),.int .u64 (n:Int)] w fun e w'=>e=.returned (.tuple #[.int .u64 ((0:Nat):Int),.int .u64 (n:Int)])∧w=w' from hmul.mono (fun _ _ h=>⟨h.1,h.2.symm⟩))
 have hwn:IntKind.u64.wrap (n:Int)=(n:Int):=by rw [IntKind.wrap_u64];omega
 have hwn2:IntKind.i64.wrap (n:Int)=(n:Int):=by rw [IntKind.wrap_i64];omega
 clear hmul e1 e2
 have hb0:Below w.heap.size w w:=Below.refl _ _
 go_enter Tryz.func150,Tryz.ntmps150
 go_wp2_with (first | (go_at_call 212;refine HMU.out.mono ?_;rintro e w1 ⟨rfl,rfl⟩) | (refine mk_Int (.tmp 29) (.tmp 29) rfl rfl n rfl rfl (by omega) (base:=w.heap.size) (by simp) ?_;intro v7 w7 ha;obtain ⟨f7,ho7,ht7,_⟩:=ha;obtain ⟨g,cap,cur,hv7,hg1,hg2,hg3,hg4,hg5,hg6,hg7⟩:=own_ints_shape ho7.1 (by simp;omega);rw [List.length_replicate] at hv7 hg4 hg7;subst hv7;have HB7:=Lib.hid (ht7.below (Nat.le_refl _) (by simp));have HG7:=Lib.hid (show w7.heap[g]? = some (.cells cur.toList.toArray 3 (0,0)) from hg3);have HT7:=Lib.hid (show cur.toList.take n=(laidRep x n 0).map (Value.int .i64) by rw [hg7];simp [laidRep]);have HL7:=Lib.hid (show cur.toList.length=cap by simpa using hg6);have hcc:=((HB7.out.cell (p:=⟨b,off,none⟩) hb).trans hc);have HS7:=Lib.hid (one_src hcc);clear ho7 ht7 hg3 hg6 hg7 hc hcc) | (refine wpList_copy_splice rfl (.tmp 31) (.tmp 32) 53 53 rfl 3 Tryz.underlying53 (by kernel_rfl) _ _ _ _ _ _ rfl rfl g 0 cur.toList 3 HG7.out [.int .i64 x] (show 1=Nat.min 1 n from (Nat.min_eq_left h0).symm) (fun _=>⟨rfl,_,rfl,HS7.out⟩) (by rw [HL7.out];simp;omega) (by intro u hu;simp at hu;subst hu;rfl) w.heap.size w HB7.out hg1 ?_;intro w8 HG8 hb8;have HB8:=Lib.hid hb8;clear hb8))
 go_loopw [8] (fun i wr=>∃ (k:Nat) (cur':List Value),1≤k∧k≤n∧i=.int .i64 k∧Hid (wr.heap[g]? = some (.cells cur'.toArray 3 (0,0)))∧Hid (cur'.length=cap)∧Hid (cur'.take n=(laidRep x n k).map (Value.int .i64))∧Hid (Below w.heap.size w wr)) (fun i _=>n - (intOf i).toNat)
 case atStart =>
  refine ⟨1,_,Nat.le_refl _,h0,rfl,HG8,Lib.hid (by rw [length_splice _ _ _ (by rw [HL7.out];simp;omega)];exact HL7.out),Lib.hid ?_,HB8⟩
  rw [splice_take (by simp;omega),HT7.out]
  exact splice_rep (m:=1) (by omega) (by omega)
 case round =>
  obtain ⟨k,cur',hk1,hkn,rfl,HG,HL,HT,HB⟩:=hrel
  by_cases hlt:k < n
  ·have hcs:∀ (j:Nat) (u:Value),(List.replicate (min k (n - k)) (Value.int .i64 x))[j]? = some u→wr.drew.cell? ((⟨g,0,none⟩:Addr).add j)=some u:=fun j u hu=>by
    obtain ⟨hj,hu2⟩:=List.getElem?_eq_some_iff.1 hu
    simp at hj hu2
    subst hu2
    have h2:(cur'.take n)[j]? = some (Value.int .i64 x):=by
     rw [HT.out]
     unfold laidRep
     rw [List.getElem?_map,List.getElem?_append_left (by simp;omega),List.getElem?_replicate,if_pos (by omega)]
     rfl
    rw [List.getElem?_take,if_pos (by omega)] at h2
    rw [addr_add,Nat.zero_add,cell_of_row wr.drew _ j _ _ (0,0) HG.out]
    simpa using h2
   have HCS:=Lib.hid hcs
   have hkc:k≤cap:=by omega
   have hkn2:k≤n:=hkn
   have HG:=Lib.hid (show wr.drew.heap[g]? = some (.cells cur'.toArray 3 (0,0)) from HG.out)
   have HB:=Lib.hid HB.out.drew
   have hkne : ¬ (cap=k):=by omega
   have hwk:IntKind.i64.wrap ((k:Int) + ((min k (n - k):Nat):Int))=(k:Int) + ((min k (n - k):Nat):Int):=by rw [IntKind.wrap_i64];omega
   have hkne2 : ¬ (cap - k=0):=by omega
   clear hcs
   go_wp2
   go_region_law (refine step_copy_splice rfl (.tmp 41) (.tmp 44) 53 53 rfl 3 Tryz.underlying53 (by kernel_rfl) (some ⟨g,k,none⟩) (some ⟨g,0,none⟩) (n - k) (cap - k) k cap (by go_simp) (by go_simp) g k cur' 3 HG.out (List.replicate (min k (n - k)) (Value.int .i64 x)) List.length_replicate (fun _=>⟨rfl,_,rfl,HCS.out⟩) (by rw [HL.out];simp;omega) (by intro u hu;rw [(List.mem_replicate.1 hu).2];rfl) w.heap.size w HB.out hg1 ?_;intro w9 HG9 hb9;have HB9:=Lib.hid hb9;clear hb9)
   all_goals (simp only [Act.put,List.getElem_toArray,List.getElem_cons_zero,List.getElem_cons_succ,List.setIfInBounds_toArray,List.set_cons_zero,List.set_cons_succ])
   all_goals go_wp2
   go_roundw
   case rel =>
    refine ⟨k + min k (n - k),_,by omega,by omega,by simp,HG9,Lib.hid (by rw [length_splice _ _ _ (by rw [HL.out];simp;omega)];exact HL.out),Lib.hid ?_,HB9⟩
    rw [splice_take (by simp;omega),HT.out]
    exact splice_rep (by omega) (by omega)
   case measure=>simp [intOf] <;> omega
  ·obtain rfl:k=n:=by omega
   go_wp2
   go_ret
   refine MInts.row (B:=w.heap.size) ?_ (Nat.le_refl _) HB.out
   have hT:=HT.out
   unfold laidRep at hT
   rw [Nat.sub_self,List.replicate_zero,List.append_nil] at hT
   refine ⟨by rw [flat_cI];simp,.inr ⟨g,cap,cur'.toArray,by simp,hg1,HG.out,by simpa using hg4,hg5,by simpa using HL.out,?_⟩⟩
   simpa [flat_cI] using hT
set_option maxHeartbeats 1000000 in
theorem places_any (n:Nat) (w:World) (hn:n≤1048576):Calls Tryz.prog 145 #[.int .i64 n] w (MInts w (intsN n)):=by
 have SN:=Lib.hid (((Sit.here w).alloc #[] 3).boxNil cI 1)
 go_enter Tryz.func145,Tryz.ntmps145
 go_wp2
 go_loopw [3,7] (fun vv i wr=>∃ (k:Nat) (fp:List Nat),k≤n∧i=.int .i64 k∧Hid (Sit w wr [fOF cI 3 1 w.heap.size vv (intsN k) fp])) (fun _ i _=>n - (intOf i).toNat)
 case atStart=>exact ⟨0,_,Nat.zero_le _,rfl,SN⟩
 case round =>
  clear SN
  obtain ⟨k,fp,hk,rfl,SN⟩:=hrel
  have hkl:=intsN_len k
  by_cases hlt:k < n
  ·have HS:=Lib.hid (show intsN (k + 1)=intsN k ++ [(k:Int)] by unfold intsN;rw [List.range_succ,List.map_append];rfl)
   go_wp2_with (at_builtin;refine papp_Int _ _ rfl rfl ((k:Int)) rfl rfl (heap_alloc_new _ _) rfl ((SN.out.list (.head _)).next (by repeat' with_reducible first | assumption | exact bR | apply bD | apply bA | apply bC | apply bN | simp <;> omega)) (by first | omega | (simp;omega)) (by have:=SN.out.low.size;first | omega | (simp;omega)) ?_;intro v7 w7 ha;obtain ⟨g7,S7⟩:=(SN.out.next (by repeat' with_reducible first | assumption | exact bR | apply bD | apply bA | apply bC | apply bN | simp <;> omega)).app ha;have S8:=Lib.hid S7;clear S7 ha)
   go_roundw
   case rel=>exact ⟨k + 1,_,hlt,by go_num,by rw [HS.out];exact S8⟩
   case measure=>simp [intOf] <;> omega
  ·obtain rfl:k=n:=by omega
   go_wp2
   go_ret
   exact SN.out.ints
set_option maxRecDepth 100000 in
set_option maxHeartbeats 1000000 in
theorem iUnits_any (v:Value) (r:Request) (w:World) (h:RReq 16777216 w w.heap.size v r):Calls Tryz.prog 63 #[v] w (MInts w (unitsC r)):=by
 have HR:=Lib.hid h
 obtain ⟨A1,c1,A2,c2,A3,c3,rfl,⟨_,_,H3⟩,_⟩:=h.opn
 have SN:=Lib.hid ((Sit.here w).alloc (cR r A1 c1 A2 c2 A3 c3) 41)
 obtain ⟨s,hs⟩:∃ s,soundR r=s:=⟨_,rfl⟩
 have HSD:=Lib.hid hs
 have HM:=Lib.hid (show unitsC r=if s=true then unitsR r else [] by unfold unitsC;rw [hs])
 clear h hs
 go_enter Tryz.func63,Tryz.ntmps63
 have k0:=SN.out.box (.head _)
 have l0:=SN.out.boxlt (.head _)
 go_wp2_with fail
 refine (sound_any _ r _ (HR.out.next SN.out.low)).mono ?_
 rintro e w1 ⟨rfl,hb⟩
 rw [HSD.out]
 have SN:=Lib.hid (SN.out.next hb)
 clear k0 l0 hb
 cases s
 ·have HM2:=Lib.hid (show unitsC r=[] by rw [HM.out];rfl)
  have SN:=Lib.hid (SN.out.addNil (f:=cI) (e:=3) (K:=1) w.heap.size)
  go_wp2
  go_ret
  rw [HM2.out]
  exact SN.out.ints
 ·have HM2:=Lib.hid (show unitsC r=unitsR r by rw [HM.out];rfl)
  have hul:=(right_of HSD.out).nunits
  have HIT:=Lib.hid (right_of HSD.out).items
  have hil:=(right_of HSD.out).nitems
  have SN:=Lib.hid ((SN.out.alloc #[] 3).boxNil cI 1)
  have k0:=SN.out.box (.tail _ (.head _))
  have l0:=SN.out.boxlt (.tail _ (.head _))
  go_wp2
  go_loopw [3,13] (fun vv i wr=>∃ (k:Nat) (fp:List Nat),k≤r.items.length∧i=.int .i64 k∧Hid (Sit w wr [fOF cI 3 1 w.heap.size vv (unitsG 0 (r.items.take k)) fp,fBox w.heap.size (cR r A1 c1 A2 c2 A3 c3) 41])) (fun _ i _=>r.items.length - (intOf i).toNat)
  case atStart=>exact ⟨0,_,Nat.zero_le _,rfl,SN⟩
  case round =>
   clear SN k0 l0
   obtain ⟨k,fp,hk,rfl,SN⟩:=hrel
   by_cases hlt:k < r.items.length
   ·obtain ⟨b,off,x,_,heq,hb,hx,_,hfx,hc⟩:=(H3.next (flat_mono _) SN.out.low).at_ k hlt
    cases heq
    cases hfx
    have hc0:=hc 0 _ rfl
    have hc1:=hc 1 _ rfl
    have hc2:=hc 2 _ rfl
    have hc3:=hc 3 _ rfl
    have hc4:=hc 4 _ rfl
    have hc5:=hc 5 _ rfl
    have hc6:=hc 6 _ rfl
    simp only [Nat.add_zero] at hc0
    have hcn:1≤x.count∧x.count≤6:=by
     have h1:=HIT.out x (List.mem_of_getElem? hx)
     simp only [itemOk,inB,Bool.and_eq_true,decide_eq_true_eq] at h1
     omega
    obtain ⟨n,hn⟩:∃ n:Nat,x.count=n:=⟨x.count.toNat,by omega⟩
    have HS:=Lib.hid (show unitsG 0 (r.items.take (k + 1))=unitsG 0 (r.items.take k) ++ List.replicate n (k:Int) by have h1:=unitsG_take 0 r.items k x hx;rw [hn,Int.toNat_natCast] at h1;simpa using h1)
    have hln:(unitsG 0 (r.items.take k)).length + n≤12:=by have h1:=unitsG_le 0 r.items (k + 1);rw [HS.out] at h1;simp at h1;unfold unitsR at hul;omega
    rw [hn] at hc6
    have hn1:1≤n∧n≤6:=by omega
    have hA:=(SN.out.alloc #[.int .i64 x.id,.int .i64 x.w,.int .i64 x.h,.int .i64 x.d,.int .i64 x.gram,.int .i64 x.cls,.int .i64 n] 152).alloc #[.int .i64 (k:Int)] 3
    simp only [World.size_alloc] at hA
    have SM:=Lib.hid (hA.boxRow (f:=cI) (K:=1) [(k:Int)] rfl (fun _=>rfl) (by unfold maxLen;simp))
    have HRI:=Lib.hid (OInts.read (SM.out.list (.head _)) (by simp))
    clear hc hx hcn hn hA
    go_wp2_with fail
    refine (repeatInt_any _ (k:Int) n _ HRI.out hn1.1 (by omega)).mono ?_
    intro e2 w2 hm
    obtain ⟨v2,f2,rfl,hS⟩:=SM.out.gotInts hm
    have hRR:=OInts.read (hS.list (.head _)) (by simp;omega)
    obtain ⟨C2,d2,rfl,_⟩:=(hS.list (.head _)).form
    simp only [List.length_replicate] at hRR hS ⊢
    have HRR:=Lib.hid hRR
    clear hRR
    have SM:=Lib.hid (hS.subl (.cons _ (.cons _ (.cons _ (List.Sublist.refl _)))))
    clear hS hm HRI
    go_wp2_with (at_builtin;refine pappAll_Int (.tmp 18) (.tmp 23) rfl rfl rfl rfl HRR.out (SM.out.list (.head _)) (by first | omega | (simp;omega)) (by have:=SM.out.low.size;first | omega | (simp;omega)) ?_;intro v7 w7 ha;obtain ⟨g7,S7⟩:=SM.out.app ha;have S8:=Lib.hid S7;clear S7 ha)
    go_roundw
    case rel=>exact ⟨k + 1,_,hlt,by go_num,by rw [HS.out];exact S8⟩
    case measure=>simp [intOf] <;> omega
   ·obtain rfl:k=r.items.length:=by omega
    rw [List.take_length] at SN
    go_wp2
    go_ret
    rw [HM2.out]
    exact SN.out.ints
set_option maxRecDepth 100000 in
set_option maxHeartbeats 1000000 in
theorem iPresent_any (v:Value) (r:Request) (w:World) (h:RReq 16777216 w w.heap.size v r):Calls Tryz.prog 219 #[v] w (MInts w (presentR r)):=by
 have HR:=Lib.hid h
 obtain ⟨A1,c1,A2,c2,A3,c3,rfl,⟨_,_,H3⟩,_⟩:=h.opn
 have SN:=Lib.hid ((Sit.here w).alloc (cR r A1 c1 A2 c2 A3 c3) 41)
 obtain ⟨s,hs⟩:∃ s,soundR r=s:=⟨_,rfl⟩
 have HSD:=Lib.hid hs
 clear h hs
 go_enter Tryz.func219,Tryz.ntmps219
 have k0:=SN.out.box (.head _)
 have l0:=SN.out.boxlt (.head _)
 go_wp2_with fail
 refine (sound_any _ r _ (HR.out.next SN.out.low)).mono ?_
 rintro e w1 ⟨rfl,hb⟩
 rw [HSD.out]
 have SN:=Lib.hid (SN.out.next hb)
 clear k0 l0 hb
 cases s
 ·have HM2:=Lib.hid (show presentR r=[] by unfold presentR;rw [HSD.out];rfl)
  have SN:=Lib.hid (SN.out.addNil (f:=cI) (e:=3) (K:=1) w.heap.size)
  go_wp2
  go_ret
  rw [HM2.out]
  exact SN.out.ints
 ·have HM2:=Lib.hid (present_kinds HSD.out)
  have hil:=(right_of HSD.out).nitems
  have SN:=Lib.hid ((SN.out.alloc #[] 3).boxNil cI 1)
  have k0:=SN.out.box (.tail _ (.head _))
  have l0:=SN.out.boxlt (.tail _ (.head _))
  go_wp2
  go_loopw [3,13] (fun vv i wr=>∃ (k:Nat) (fp:List Nat),k≤r.items.length∧i=.int .i64 k∧Hid (Sit w wr [fOF cI 3 1 w.heap.size vv ((r.items.take k).map (·.cls)) fp,fBox w.heap.size (cR r A1 c1 A2 c2 A3 c3) 41])) (fun _ i _=>r.items.length - (intOf i).toNat)
  case atStart=>exact ⟨0,_,Nat.zero_le _,rfl,SN⟩
  case round =>
   clear SN k0 l0
   obtain ⟨k,fp,hk,rfl,SN⟩:=hrel
   by_cases hlt:k < r.items.length
   ·obtain ⟨b,off,x,_,heq,hb,hx,_,hfx,hc⟩:=(H3.next (flat_mono _) SN.out.low).at_ k hlt
    cases heq
    cases hfx
    have hc0:=hc 0 _ rfl
    have hc1:=hc 1 _ rfl
    have hc2:=hc 2 _ rfl
    have hc3:=hc 3 _ rfl
    have hc4:=hc 4 _ rfl
    have hc5:=hc 5 _ rfl
    have hc6:=hc 6 _ rfl
    simp only [Nat.add_zero] at hc0
    have HS:=Lib.hid (show (r.items.take (k + 1)).map (·.cls)=(r.items.take k).map (·.cls) ++ [x.cls] by rw [List.take_add_one,hx,List.map_append];rfl)
    have hln:((r.items.take k).map (·.cls)).length≤8:=by rw [List.length_map,List.length_take];omega
    have SN:=Lib.hid (SN.out.alloc #[.int .i64 x.id,.int .i64 x.w,.int .i64 x.h,.int .i64 x.d,.int .i64 x.gram,.int .i64 x.cls,.int .i64 x.count] 152)
    have SN:=Lib.hid SN.out.rot2
    clear hc hx
    go_wp2_with (at_builtin;refine papp_Int _ _ rfl rfl (x.cls) rfl rfl (alloc_at (by first | rfl | (simp;done) | (simp;omega))) rfl ((SN.out.list (.head _)).next (by repeat' with_reducible first | assumption | exact bR | apply bD | apply bA | apply bC | apply bN | simp <;> omega)) (by first | omega | (simp;omega)) (by have:=SN.out.low.size;first | omega | (simp;done) | (simp;omega) | (simp at this ⊢;omega)) ?_;intro v7 w7 ha;obtain ⟨g7,S7⟩:=(SN.out.next (by repeat' with_reducible first | assumption | exact bR | apply bD | apply bA | apply bC | apply bN | simp <;> omega)).app ha;have S8:=Lib.hid S7;clear S7 ha)
    go_roundw
    case rel=>exact ⟨k + 1,_,hlt,by go_num,by rw [HS.out];exact Lib.hid S8.out.rot2.drop⟩
    case measure=>simp [intOf] <;> omega
   ·obtain rfl:k=r.items.length:=by omega
    rw [List.take_length] at SN
    go_wp2_with fail
    refine (kinds_any _ _ _ (OInts.read (SN.out.list (.head _)) (by rw [List.length_map];omega))).mono ?_
    intro e w2 hm
    obtain ⟨v2,f2,rfl,hS⟩:=SN.out.gotInts hm
    rw [HM2.out] at hS
    have SN:=Lib.hid hS
    clear hS hm
    go_wp2
    go_ret
    exact SN.out.ints
end Go.Proofs.YtioijfplbgpjpaaGreat
