/-
  The walks over the reference's sorting by halves, and over flat lists of units, both sides.
-/
import Derived.Test.YtioijfplbgpjpaaGreatKu01
namespace Go.Proofs.YtioijfplbgpjpaaGreat
set_option linter.unusedVariables false
set_option linter.unusedSimpArgs false
set_option maxRecDepth 100000
open Go.RowKit
def leB (down:Bool) (keys:List Int) (i j:Nat):Bool:=if down then leDown keys i j else leUp keys i j
set_option maxHeartbeats 400000 in
theorem l1Places_any (n:Nat) (w:World) (h1:n≤16777216) :
  Calls Tryz.prog 180 #[.int .i64 n] w (MInts w (ints (List.range n))):=by
 go_enter Tryz.func180,Tryz.ntmps180
 go_wp2
 go_loopw [3,4] (fun v i wr=>∃ k:Nat,k≤n∧i=.int .i64 k∧wr.ownsRow w.heap.size 3 1 v (ints (List.range k)).length ((ints (List.range k)).flatMap cI)∧Below w.heap.size w wr) (fun _ i _=>n - (intOf i).toNat)
 case atStart=>exact ⟨0,Nat.zero_le _,rfl,own_empty (Nat.le_refl _) (heap_alloc_new w _),(by repeat' with_reducible first | assumption | exact bR | apply bD | apply bA | apply bC | apply bN | simp <;> omega)⟩
 case round =>
  obtain ⟨k,hk,rfl,hown,hbl⟩:=hrel
  by_cases hlt:k < n
  ·have hl:(ints (List.range k)).length < 16777216:=by rw [ints_length,List.length_range];omega
   have HO:=Lib.hid hown
   have hsz:=hbl.size
   clear hown
   go_wp2_with (at_builtin;refine at_app (.tmp 11) (.tmp 13) 53 rfl ?_;refine app_Int (.tmp 11) (.tmp 13) rfl rfl _ rfl rfl rfl rfl HO.out hl hsz ?_;intro v' w' ho hb hg hn)
   go_roundw
   case rel=>exact ⟨k + 1,hlt,by go_num,by simpa [ints,List.range_succ] using ho,hbl.trans hb⟩
   case measure=>simp [intOf];omega
  ·obtain rfl:k=n:=by omega
   go_wp2
   go_ret
   exact MInts.row hown (Nat.le_refl _) hbl
theorem ints_read {w:World} {B:Nat} {ps:List Nat} {bd:Nat} {A:Option Addr} {n c:Nat} (h:RInts bd w B (.slice A n c) (ints ps)) (i:Nat) {p:Nat} (hp:ps[i]? = some p) :
  ∃ b off,A=some ⟨b,off,none⟩∧b < B∧w.cell? ⟨b,off + i,none⟩=some (.int .i64 p):=by
 obtain ⟨b,off,x,h1,h2,h3,h4⟩:=RL.at1 h i (by rw [ints_length];exact (List.getElem?_eq_some_iff.1 hp).1)
 rw [ints_get hp] at h3
 cases h3
 exact ⟨b,off,h1,h2,h4 _ rfl⟩
def mrg (le:Nat→Nat→Bool) (a b:List Nat) (i j:Nat):List Nat:=List.merge (a.drop i) (b.drop j) le
theorem drop_cons {α:Type} {a:List α} {i:Nat} {x:α} (h:a[i]? = some x):a.drop i=x::a.drop (i + 1):=by
 obtain ⟨h1,rfl⟩:=List.getElem?_eq_some_iff.1 h
 exact List.drop_eq_getElem_cons h1
theorem mrg_a {le:Nat→Nat→Bool} {a b:List Nat} {i j x y:Nat} (ha:a[i]? = some x) (hb:b[j]? = some y) (h:le x y=true):mrg le a b i j=x::mrg le a b (i + 1) j:=by
 unfold mrg;rw [drop_cons ha,drop_cons hb,List.cons_merge_cons,if_pos h]
theorem mrg_b {le:Nat→Nat→Bool} {a b:List Nat} {i j x y:Nat} (ha:a[i]? = some x) (hb:b[j]? = some y) (h:le x y=false):mrg le a b i j=y::mrg le a b i (j + 1):=by
 unfold mrg;rw [drop_cons ha,drop_cons hb,List.cons_merge_cons,if_neg (by simp [h])]
theorem mrg_a' {le:Nat→Nat→Bool} {a b:List Nat} {i x:Nat} (ha:a[i]? = some x):mrg le a b i b.length=x::mrg le a b (i + 1) b.length:=by
 unfold mrg;rw [drop_cons ha,List.drop_length];simp
theorem mrg_b' {le:Nat→Nat→Bool} {a b:List Nat} {j y:Nat} (hb:b[j]? = some y):mrg le a b a.length j=y::mrg le a b a.length (j + 1):=by
 unfold mrg;rw [drop_cons hb,List.drop_length];simp
theorem mrg_end {le:Nat→Nat→Bool} {a b:List Nat} : mrg le a b a.length b.length=[]:=by unfold mrg;simp
theorem keyAt_get {keys:List Int} {p:Nat} (h:p < keys.length):keys[p]? = some (keyAt keys p):=by unfold keyAt;simp [h]
set_option maxRecDepth 100000 in
set_option maxHeartbeats 4000000 in
theorem l1Merge_any (down:Bool) (keys:List Int):∀ (m:Nat) (kv pv:Value) (ps:List Nat) (w:World),ps.length≤m→ps.length≤16777216→(∀ p∈ps,p < keys.length)→RInts 16777216 w w.heap.size kv keys→RInts 16777216 w w.heap.size pv (ints ps) →
  Calls Tryz.prog 179 #[kv,pv,.bool down] w (MInts w (ints (mSort (leB down keys) ps))):=by
 intro m
 induction m with
 |zero =>
  intro kv pv ps w hm hbd hps hk hp
  obtain rfl:ps=[]:=List.eq_nil_of_length_eq_zero (by omega)
  rw [mSort_lt (by simp)]
  have hp':=hp
  obtain ⟨A,c,rfl,_,_⟩:=hp
  have HP:=Lib.hid hp'
  clear hp'
  go_enter Tryz.func179,Tryz.ntmps179
  go_wp2_with (at_builtin;refine at_app (.tmp 16) (.tmp 17) 53 rfl ?_;refine appAll_Int (.tmp 16) (.tmp 17) rfl rfl rfl rfl (HP.out.next (flat_mono _) (show Below w.heap.size w (w.alloc _) from (Below.refl _ _).alloc (Nat.le_refl _) _)) (own_nil (α:=Int) (f:=cI) (Nat.le_refl _) (heap_alloc_new w _)) (by simp [ints]) (by simp) ?_;intro v' w' ho hb hg hn)
  go_ret
  exact MInts.row ho (Nat.le_refl _) (after_alloc (Nat.le_refl _) hb)
 |succ m ih =>
  intro kv pv ps w hm hbd hps hk hp
  have hp':=hp
  obtain ⟨A,c,rfl,hlc,_⟩:=hp
  rw [ints_length] at *
  have HP:=Lib.hid hp'
  clear hp'
  have HK:=Lib.hid hk
  have HPS:=Lib.hid hps
  clear hk hps
  by_cases h2:ps.length < 2
  ·rw [mSort_lt h2]
   go_enter Tryz.func179,Tryz.ntmps179
   go_wp2_with (at_builtin;refine at_app (.tmp 16) (.tmp 17) 53 rfl ?_;refine appAll_Int (.tmp 16) (.tmp 17) rfl rfl rfl rfl (HP.out.next (flat_mono _) (show Below w.heap.size w (w.alloc _) from (Below.refl _ _).alloc (Nat.le_refl _) _)) (own_nil (α:=Int) (f:=cI) (Nat.le_refl _) (heap_alloc_new w _)) (by rw [ints_length];simp;omega) (by simp) ?_;intro v' w' ho hb hg hn)
   go_ret
   exact MInts.row ho (Nat.le_refl _) (after_alloc (Nat.le_refl _) hb)
  ·obtain ⟨b,off,rfl⟩:=HP.out.some_ (by omega)
   obtain ⟨la,hla⟩:∃ x,x=mSort (leB down keys) (ps.take (ps.length / 2)):=⟨_,rfl⟩
   obtain ⟨lb,hlb⟩:∃ x,x=mSort (leB down keys) (ps.drop (ps.length / 2)):=⟨_,rfl⟩
   have HM:=Lib.hid (show mSort (leB down keys) ps=mrg (leB down keys) la lb 0 0 by rw [mSort_ge h2,hla,hlb];rfl)
   have HTK:=Lib.hid (RL.take HP.out (ps.length / 2) (by omega))
   have HDP:=Lib.hid (RL.drop HP.out (ps.length / 2) (by omega))
   have ht:ints (ps.take (ps.length / 2))=(ints ps).take (ps.length / 2):=by unfold ints;rw [List.map_take]
   have hd:ints (ps.drop (ps.length / 2))=(ints ps).drop (ps.length / 2):=by unfold ints;rw [List.map_drop]
   rw [← ht] at HTK
   rw [← hd] at HDP
   have hlal:la.length≤16777216:=by rw [hla,mSort_length,List.length_take];omega
   have hlbl:lb.length≤16777216:=by rw [hlb,mSort_length,List.length_drop];omega
   have hlab:la.length + lb.length≤16777216:=by rw [hla,hlb,mSort_length,mSort_length,List.length_take,List.length_drop];omega
   have HLA:=Lib.hid (show ∀ p∈la,p < keys.length by intro p hp;rw [hla] at hp;exact HPS.out p (List.mem_of_mem_take (mSort_mem.1 hp)))
   have HLB:=Lib.hid (show ∀ p∈lb,p < keys.length by intro p hp;rw [hlb] at hp;exact HPS.out p (List.mem_of_mem_drop (mSort_mem.1 hp)))
   have hr1:=fun W (hb:Below w.heap.size w W)=>ih kv _ (ps.take (ps.length / 2)) W (by rw [List.length_take];omega) (by rw [List.length_take];omega) (fun p hp=>HPS.out p (List.mem_of_mem_take hp)) (HK.out.next (flat_mono _) hb) (HTK.out.next (flat_mono _) hb)
   have hr2:=fun W (hb:Below w.heap.size w W)=>ih kv _ (ps.drop (ps.length / 2)) W (by rw [List.length_drop];omega) (by rw [List.length_drop];omega) (fun p hp=>HPS.out p (List.mem_of_mem_drop hp)) (HK.out.next (flat_mono _) hb) (HDP.out.next (flat_mono _) hb)
   simp only [Nat.mul_one,← hla] at hr1
   simp only [Nat.mul_one,← hlb] at hr2
   have HR1:=Lib.hid hr1
   have HR2:=Lib.hid hr2
   clear hr1 hr2 ht hd hla hlb HTK HDP ih
   go_enter Tryz.func179,Tryz.ntmps179
   go_wp2_with fail
   refine (HR1.out _ (Below.refl _ _)).mono ?_
   rintro e w1 ⟨va,fa,rfl,hoa,hb1⟩
   go_wp2_with fail
   refine (HR2.out _ hb1).mono ?_
   rintro e w2 ⟨vb,fb,rfl,hob,hb2⟩
   have hb12:=bstep hb1 hb2
   obtain ⟨Aa,ca,rfl,_⟩:=OInts.form hoa
   obtain ⟨Ab,cb,rfl,_⟩:=OInts.form hob
   have HA:=Lib.hid ((hoa.next hb2).read (by rw [ints_length];omega))
   have HB:=Lib.hid (hob.read (by rw [ints_length];omega))
   rw [ints_length] at HA HB ⊢
   rw [ints_length] at *
   have hb3:Below w.heap.size w (w2.alloc (.cells #[] 3)):=hb12.alloc hb12.size _
   clear hoa hob hb1 hb2
   go_wp2
   go_loopw [10,11,12] (fun v iv jv wr=>∃ i j:Nat,∃ out:List Nat,i≤la.length∧j≤lb.length∧iv=.int .i64 i∧jv=.int .i64 j∧out.length=i + j∧mrg (leB down keys) la lb 0 0=out ++ mrg (leB down keys) la lb i j ∧
     wr.ownsRow w2.heap.size 3 1 v (ints out).length ((ints out).flatMap cI)∧Below w2.heap.size w2 wr) (fun _ iv jv _=>la.length + lb.length - ((intOf iv).toNat + (intOf jv).toNat))
   case atStart=>exact ⟨0,0,[],Nat.zero_le _,Nat.zero_le _,rfl,rfl,rfl,rfl,own_nil (Nat.le_refl _) (heap_alloc_new w2 _),(by repeat' with_reducible first | assumption | exact bR | apply bD | apply bA | apply bC | apply bN | simp <;> omega)⟩
   case round =>
    obtain ⟨i,j,out,hi,hj,rfl,rfl,hol,hmr,hown,hbl⟩:=hrel
    have hsz:=hbl.size
    have hol':(ints out).length < 16777216 ∨ (i=la.length∧j=lb.length):=by rw [ints_length,hol];omega
    have HMR:=Lib.hid hmr
    have HOL:=Lib.hid hol
    clear hmr hol
    by_cases hjl:j=lb.length
    ·subst hjl
     by_cases hil:i=la.length
     ·subst hil
      go_wp2
      go_ret
      rw [HM.out,HMR.out,mrg_end,List.append_nil]
      exact MInts.row hown hb12.size (hb12.trans (hbl.mono hb12.size))
     ·have hlt:i < la.length:=by omega
      have hl:(ints out).length < 16777216:=by omega
      obtain ⟨x,hx⟩:∃ x,la[i]? = some x:=⟨_,List.getElem?_eq_getElem hlt⟩
      obtain ⟨ba,oa,rfl,hba,hca⟩:=ints_read (HA.out.below (flat_mono _) hbl) i hx
      have HS:=Lib.hid (mrg_a' (le:=leB down keys) (b:=lb) hx)
      have HO:=Lib.hid hown
      have HX:=Lib.hid hx
      clear hown hx hol' hil
      go_wp2_with (at_builtin;refine at_app (.tmp 59) (.tmp 64) 53 rfl ?_;refine app_Int (.tmp 59) (.tmp 64) rfl rfl _ rfl rfl rfl rfl HO.out hl hsz ?_;intro v' w' ho hb hg hn)
      go_roundw
      case rel=>exact ⟨i + 1,lb.length,out ++ [x],hlt,Nat.le_refl _,by go_num,rfl,by rw [List.length_append,HOL.out];simp;omega,by rw [HMR.out,HS.out];simp,by simpa [ints] using ho,hbl.trans hb⟩
      case measure=>simp [intOf];omega
    ·have hjt:j < lb.length:=by omega
     have hjn : ¬ ((j:Int)=(lb.length:Int)):=by omega
     have hl:(ints out).length < 16777216:=by omega
     obtain ⟨y,hy⟩:∃ y,lb[j]? = some y:=⟨_,List.getElem?_eq_getElem hjt⟩
     obtain ⟨bb,ob,rfl,hbb,hcb⟩:=ints_read (HB.out.below (flat_mono _) hbl) j hy
     have HO:=Lib.hid hown
     have HY:=Lib.hid hy
     by_cases hil:i=la.length
     ·subst hil
      have HS:=Lib.hid (mrg_b' (le:=leB down keys) (a:=la) hy)
      clear hown hy hol' hjl
      go_wp2_with (at_builtin;refine at_app (.tmp 73) (.tmp 78) 53 rfl ?_;refine app_Int (.tmp 73) (.tmp 78) rfl rfl _ rfl rfl rfl rfl HO.out hl hsz ?_;intro v' w' ho hb hg hn)
      go_roundw
      case rel=>exact ⟨la.length,j + 1,out ++ [y],Nat.le_refl _,hjt,rfl,by go_num,by rw [List.length_append,HOL.out];simp;omega,by rw [HMR.out,HS.out];simp,by simpa [ints] using ho,hbl.trans hb⟩
      case measure=>simp [intOf];omega
     ·have hlt:i < la.length:=by omega
      have hin : ¬ ((i:Int)=(la.length:Int)):=by omega
      obtain ⟨x,hx⟩:∃ x,la[i]? = some x:=⟨_,List.getElem?_eq_getElem hlt⟩
      obtain ⟨ba,oa,rfl,hba,hca⟩:=ints_read (HA.out.below (flat_mono _) hbl) i hx
      have HX:=Lib.hid hx
      have hxk:=HLA.out x (List.mem_of_getElem? hx)
      have hyk:=HLB.out y (List.mem_of_getElem? hy)
      obtain ⟨ka,hka⟩:∃ k,keyAt keys x=k:=⟨_,rfl⟩
      obtain ⟨kb,hkb⟩:∃ k,keyAt keys y=k:=⟨_,rfl⟩
      obtain ⟨Ak,nk,ck,rfl⟩:∃ A n c,kv=.slice A n c:=by obtain ⟨A,c,h,_⟩:=HK.out;exact ⟨_,_,_,h⟩
      obtain ⟨bk,ok,kx,rfl,hbk,hkx,hck⟩:=RL.at1 (HK.out.below (flat_mono _) ((hb12.trans (hbl.mono hb12.size)))) x hxk
      obtain ⟨bk',ok',ky,he,hbk',hky,hck'⟩:=RL.at1 (HK.out.below (flat_mono _) ((hb12.trans (hbl.mono hb12.size)))) y hyk
      cases he
      rw [keyAt_get hxk,hka] at hkx
      rw [keyAt_get hyk,hkb] at hky
      cases hkx
      cases hky
      have hckx:=hck _ rfl
      have hcky:=hck' _ rfl
      have hnk:=HK.out.len_cap.1
      have hxn:x < nk:=by omega
      have hyn:y < nk:=by omega
      have HCA:=Lib.hid hca
      have HCB:=Lib.hid hcb
      have HKA:=Lib.hid hka
      have HKB:=Lib.hid hkb
      clear hck hck' hown hx hy hol' hjl hil hka hkb hnk hxk hyk
      have hgo:((leB down keys x y=false∧(kb < ka∧down=false ∨ ka < kb∧down=true)) ∨ (leB down keys x y=true∧¬ (kb < ka∧down=false ∨ ka < kb∧down=true))):=by
       unfold leB leUp leDown
       rw [HKA.out,HKB.out]
       cases down <;> simp <;> omega
      rcases hgo with ⟨hle,hc⟩ | ⟨hle,hc⟩
      ·have HS:=Lib.hid (mrg_b HX.out HY.out hle)
       have hq1:decide (kb < ka) = !down:=by rcases hc with ⟨h1,rfl⟩ | ⟨h1,rfl⟩ <;> simp <;> omega
       have hq2:decide (ka < kb)=down:=by rcases hc with ⟨h1,rfl⟩ | ⟨h1,rfl⟩ <;> simp <;> omega
       clear hc hle
       cases down
       all_goals
        simp only [Bool.not_false,Bool.not_true] at hq1
        go_wp2
        go_quiet (fail)
        generalize hW:World.drewN wr _=wq
        have hbq:Below w2.heap.size w2 wq:=by rw [← hW];exact below_drewN hbl _
        have hszq:=hbq.size
        have HOQ:=Lib.hid (show wq.ownsRow w2.heap.size 3 1 _ (ints out).length ((ints out).flatMap cI) by rw [← hW];exact own_block HO.out (fun _ _=>rfl))
        have hcbq:wq.cell? ⟨bb,ob + j,none⟩=some (.int .i64 y):=by rw [← hW];exact HCB.out
        clear hW hq1 hq2
        go_wp2_with (at_builtin;refine at_app (.tmp 122) (.tmp 127) 53 rfl ?_;refine app_Int (.tmp 122) (.tmp 127) rfl rfl _ rfl rfl rfl rfl HOQ.out hl hszq ?_;intro v' w' ho hb hg hn)
        go_roundw
        case rel=>exact ⟨i,j + 1,out ++ [y],hi,hjt,rfl,by go_num,by rw [List.length_append,HOL.out];simp;omega,by rw [HMR.out,HS.out];simp,by simpa [ints] using ho,hbq.trans hb⟩
        case measure=>simp [intOf];omega
      ·have HS:=Lib.hid (mrg_a HX.out HY.out hle)
       have hq:∃ q1 q2,decide (kb < ka)=q1∧decide (ka < kb)=q2∧(q1 && !down || q2 && down)=false:=by
        refine ⟨_,_,rfl,rfl,?_⟩
        cases down <;> simp at hc ⊢ <;> omega
       obtain ⟨q1,q2,hq1,hq2,hq⟩:=hq
       clear hc hle
       cases down <;> cases q1 <;> cases q2 <;> simp at hq
       all_goals
        go_wp2
        go_quiet (fail)
        generalize hW:World.drewN wr _=wq
        have hbq:Below w2.heap.size w2 wq:=by rw [← hW];exact below_drewN hbl _
        have hszq:=hbq.size
        have HOQ:=Lib.hid (show wq.ownsRow w2.heap.size 3 1 _ (ints out).length ((ints out).flatMap cI) by rw [← hW];exact own_block HO.out (fun _ _=>rfl))
        have hcaq:wq.cell? ⟨ba,oa + i,none⟩=some (.int .i64 x):=by rw [← hW];exact HCA.out
        clear hW hq1 hq2
        go_wp2_with (at_builtin;refine at_app (.tmp 45) (.tmp 50) 53 rfl ?_;refine app_Int (.tmp 45) (.tmp 50) rfl rfl _ rfl rfl rfl rfl HOQ.out hl hszq ?_;intro v' w' ho hb hg hn)
        go_roundw
        case rel=>exact ⟨i + 1,j,out ++ [x],hlt,hj,by go_num,rfl,by rw [List.length_append,HOL.out];simp;omega,by rw [HMR.out,HS.out];simp,by simpa [ints] using ho,hbq.trans hb⟩
        case measure=>simp [intOf];omega
set_option maxHeartbeats 400000 in
theorem sSortUp_any (kv:Value) (keys:List Int) (w:World) (h:RInts 16777216 w w.heap.size kv keys):Calls Tryz.prog 106 #[kv] w (MInts w (ints (argUp keys))):=by
 have H:=Lib.hid h
 obtain ⟨A,c,rfl,hbd,_⟩:=h
 go_enter Tryz.func106,Tryz.ntmps106
 go_wp2_with fail
 refine (l1Places_any keys.length _ (by omega)).mono ?_
 rintro e w1 ⟨v1,f1,rfl,ho1,hb1⟩
 go_wp2_with fail
 refine (l1Merge_any false keys keys.length _ _ (List.range keys.length) _ (by simp) (by simp;omega) (fun p hp=>by simpa using hp) (H.out.next (flat_mono _) hb1) (ho1.read (by rw [ints_length];simp;omega))).mono ?_
 rintro e w2 ⟨v2,f2,rfl,ho2,hb2⟩
 go_wp2
 go_ret
 exact MInts.mk ho2 hb1.size (bstep hb1 hb2)
end Go.Proofs.YtioijfplbgpjpaaGreat
