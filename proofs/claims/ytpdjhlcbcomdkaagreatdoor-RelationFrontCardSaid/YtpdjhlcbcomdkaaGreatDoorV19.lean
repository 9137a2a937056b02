/- Several texts in one: The walk of a view's next: what is so behind a place. The walks of slices.Index and slices.Contains over lives. Append to a slice of the call's own, and where the longer one lies. Over any program. -/
import Derived.Deep.DeepCutAuto
import Derived.Great.BuildSlice
import Derived.Test.YtpdjhlcbcomdkaaGreatDoorV01
import Derived.Test.YtpdjhlcbcomdkaaGreatDoorV02
import Derived.Test.YtpdjhlcbcomdkaaGreatDoorV06
import Derived.Test.YtpdjhlcbcomdkaaGreatDoorV18
set_option linter.unusedVariables false
set_option linter.unusedSimpArgs false
set_option linter.unusedSimpArgs false
namespace Go.Proofs.By
open Go.RowKit Go.Proofs.Heap Go.Proofs
open Go.Proofs.Rm (below_drewN)
structure NX (w w':World) (oc:Array Value) (s:VS):Prop where
 bel:Below w.heap.size w w'
 st:w'.heap[w.heap.size]?=some (.cells (stCells s).toArray 202 (0,0))
 z:w'.heap[w.heap.size+1]?=some (.cells #[.int .i64 0,.int .i64 0,.bool false,.bool false] 202 (0,0))
 op:w'.heap[w.heap.size+2]?=some (.cells oc 32 (0,0))
theorem st_one (s:VS):(stCells s).toArray.all (·.oneCell')=true:=by obtain ⟨a,b,c,d⟩:=s;kernel_rfl
section
variable {w w1 w2:World} {oc:Array Value} {s:VS}
theorem NX.below (h:NX w w1 oc s) (hb:Below w1.heap.size w1 w2):NX w w2 oc s:=⟨h.bel.trans (hb.mono h.bel.size),(hb.block _ (hp_lt h.st)).trans h.st,(hb.block _ (hp_lt h.z)).trans h.z,(hb.block _ (hp_lt h.op)).trans h.op⟩
theorem NX.set (h:NX w w1 oc s) (j:Nat) (u:Value) (s':VS) (hs:(stCells s).set j u=stCells s'):NX w (w1.setCell ⟨w.heap.size,j,none⟩ u) oc s':=by
 have h2:=hp_set h.st j u
 rw [List.setIfInBounds_toArray,hs] at h2
 exact ⟨((Fr.of_below NoB h.bel).setCell (p:=⟨w.heap.size,j,none⟩) (Or.inl (Nat.le_refl _)) _).below,h2,(RowKit.Below.heap_setCell w1 ⟨w.heap.size,j,none⟩ u (w.heap.size+1) (by show w.heap.size+1≠w.heap.size;omega)).trans h.z,(RowKit.Below.heap_setCell w1 ⟨w.heap.size,j,none⟩ u (w.heap.size+2) (by show w.heap.size+2≠w.heap.size;omega)).trans h.op⟩
theorem NX.row (h:NX w w1 oc s) (s':VS):NX w (w1.setRow w.heap.size (stCells s').toArray) oc s':=
 ⟨below_setRow h.bel (Nat.le_refl _) _,setRow_heap _ _ _ _ _ _ h.st,by rw [setRow_other _ _ _ _ (by omega)];exact h.z,by rw [setRow_other _ _ _ _ (by omega)];exact h.op⟩
end
section
variable {w:World} {V k:Nat} {ov av mv lv:Value} {L:List OpB} {x:Life} {wv cv qv:Value}
set_option maxRecDepth 100000 in
set_option maxHeartbeats 8000000 in
theorem Vnext_any (h:VB w V k ov av mv lv L x wv cv qv) {j:Nat} (hj:j<L.length) {s:VS} (hs:VAt w wv cv qv j s) :
  Calls Tryz.prog 114 #[.pointer (some ⟨V,0,none⟩),.agg (stCells s).toArray,.int .i64 (j:Int)] w fun e w'=>e = .returned (.agg (stCells (nextV L x s j)).toArray)∧Below w.heap.size w w':=by
 obtain ⟨g,o,c,nm,a1,n1,c1,a2,n2,c2,hov,hop⟩:=op_at h.ops hj
 obtain ⟨g9,o9,c9,x1,y1,z1,x2,y2,z2,x3,y3,z3,hmv,hmed⟩:=med_at h hj
 subst hov
 subst hmv
 have CO:=Lib.hid (fun (w':World) (hb:Below w.heap.size w w')=>Vop_any (h.below hb) hj)
 have CP:=Lib.hid (fun (w':World) (hb:Below w.heap.size w w')=>Vpacket_any (h.below hb) hj)
 have CN:=Lib.hid (fun (w':World) (hb:Below w.heap.size w w')=>Vopens_any (h.below hb) hj (hs.below hb))
 have HVW:Hid (∀ w',Below w.heap.size w w'→w'.heap[V]?=some (.cells #[.pointer (some ⟨k,0,none⟩),.int .i64 x.peer,.int .i64 x.source,.int .i64 x.bgn,.int .i64 x.fin,wv,cv,qv] 164 (0,0))):=fun w' hb=>(hb.block _ (hp_lt h.view)).trans h.view
 have HBK:Hid (∀ w',Below w.heap.size w w'→w'.heap[k]?=some (.cells #[.slice (some ⟨g,o,none⟩) L.length c,av,.slice (some ⟨g9,o9,none⟩) L.length c9,lv] 116 (0,0))):=fun w' hb=>(hb.block _ (hp_lt h.book)).trans h.book
 have HLY:Hid (∀ w',Below w.heap.size w w'→w'.cell? ⟨g9,o9+j*15+11,none⟩=some (.int .i64 (takenAt L j).dsc.layer)):=fun w' hb=>cell_old (range_at hmed 11 rfl) hb
 have v0:w.cell? ⟨V,0,none⟩=some (.pointer (some ⟨k,0,none⟩)):=by rw [cell_of h.view 0];rfl
 have b0:w.cell? ⟨k,0,none⟩=some (.slice (some ⟨g,o,none⟩) L.length c):=by rw [cell_of h.book 0];rfl
 have HX:Hid (nextV L x s j=if packetAt L x j && opensV s (takenAt L j).dsc then {ctrlV L x s j with cur:=(takenAt L j).dsc.layer} else ctrlV L x s j):=rfl
 have HC:Hid (ctrlV L x s j=if (opAt L j).source=x.source then (if (opAt L j).peer=x.peer∧lies x j=true then ownV (mutesV s (opK L j)) (opK L j) (opAt L j).layer else mutesV s (opK L j)) else s):=rfl
 have hjI:(j:Int)<(L.length:Int):=Int.ofNat_lt.2 hj
 have hVl:=hp_lt h.view
 have hkl:=hp_lt h.book
 clear h hs hmed
 generalize nextV L x s j=X at *
 generalize ctrlV L x s j=C at *
 generalize opK L j=KD at *
 generalize packetAt L x j=pk at *
 generalize opensV s (takenAt L j).dsc=opn at *
 generalize (takenAt L j).dsc.layer=ly at *
 obtain ⟨xp,xs,xb,xf⟩:=x
 generalize opAt L j=O at *
 obtain ⟨kd,p,sr,q,nm0,ss0⟩:=O
 dsimp only at HC hop HVW
 have hop2:((w.alloc (.cells #[.int .i64 s.want,.int .i64 s.cur,.bool s.paused,.bool s.muted] 202)).alloc (.cells #[.int .i64 0,.int .i64 0,.bool false,.bool false] 202)).rangeAt g (o+j*7) [.int .i64 kd,.int .i64 p,.int .i64 sr,.int .i64 q,.string nm,.slice a1 n1 c1,.slice a2 n2 c2]:=fun m v hm=>cell_old (hop m v hm) (bel_alloc (below_alloc w _) (Nat.le_refl _) _)
 dsimp only [stCells]
 have hz:((((w.alloc (.cells #[.int .i64 s.want,.int .i64 s.cur,.bool s.paused,.bool s.muted] 202)).alloc (.cells #[.int .i64 0,.int .i64 0,.bool false,.bool false] 202))).alloc (.cells Yz5a 32)).heap[w.heap.size+2]?=some (.cells Yz5a 32 (0,0)):=by
  have h:=heap_new ((w.alloc (.cells #[.int .i64 s.want,.int .i64 s.cur,.bool s.paused,.bool s.muted] 202)).alloc (.cells #[.int .i64 0,.int .i64 0,.bool false,.bool false] 202)) (.cells Yz5a 32)
  rw [size_alloc,size_alloc] at h
  exact h
 have HN3:Hid (NX w (((((w.alloc (.cells #[.int .i64 s.want,.int .i64 s.cur,.bool s.paused,.bool s.muted] 202)).alloc (.cells #[.int .i64 0,.int .i64 0,.bool false,.bool false] 202))).alloc (.cells Yz5a 32)).setRow (w.heap.size+2) #[.int .i64 kd,.int .i64 p,.int .i64 sr,.int .i64 q,.string nm,.slice a1 n1 c1,.slice a2 n2 c2]) #[.int .i64 kd,.int .i64 p,.int .i64 sr,.int .i64 q,.string nm,.slice a1 n1 c1,.slice a2 n2 c2] s):=by
  obtain ⟨q1,q2⟩:=two_new w (.cells #[.int .i64 s.want,.int .i64 s.cur,.bool s.paused,.bool s.muted] 202) (.cells #[.int .i64 0,.int .i64 0,.bool false,.bool false] 202)
  have q3:=below_alloc ((w.alloc (.cells #[.int .i64 s.want,.int .i64 s.cur,.bool s.paused,.bool s.muted] 202)).alloc (.cells #[.int .i64 0,.int .i64 0,.bool false,.bool false] 202)) (.cells Yz5a 32)
  refine ⟨below_setRow (bel_alloc (bel_alloc (below_alloc w _) (Nat.le_refl _) _) (Nat.le_refl _) _) (by omega) _,?_,?_,setRow_heap _ _ _ _ _ _ hz⟩
  ·rw [setRow_other _ _ _ _ (by omega)];exact (q3.block _ (hp_lt q1)).trans q1
  ·rw [setRow_other _ _ _ _ (by omega)];exact (q3.block _ (hp_lt q2)).trans q2
 go_enter Tryz.func114,Tryz.ntmps114
 go_upto_region 2 with (first|(with_reducible refine load_at 32 (.tmp 16) rfl ?_;refine wpList_load_mid rfl 32 (.tmp 16) rfl g (o+j*7) rfl [.int .i64 kd,.int .i64 p,.int .i64 sr,.int .i64 q,.string nm,.slice a1 n1 c1,.slice a2 n2 c2] _ hop2 Tryz.underlying32 rfl Yo3 ?_)|(with_reducible refine store_at 32 (.tmp 7) (.tmp 17) rfl ?_;refine store_rowTo2 rfl 32 (.tmp 7) (.tmp 17) rfl rfl (w.heap.size+2) #[.int .i64 kd,.int .i64 p,.int .i64 sr,.int .i64 q,.string nm,.slice a1 n1 c1,.slice a2 n2 c2] rfl rfl 32 Yz5a hz Yo3 Yo3 Yo3 ?_))
 clear hz hop hop2 v0 b0
 generalize (((((w.alloc (.cells #[.int .i64 s.want,.int .i64 s.cur,.bool s.paused,.bool s.muted] 202)).alloc (.cells #[.int .i64 0,.int .i64 0,.bool false,.bool false] 202))).alloc (.cells Yz5a 32)).setRow (w.heap.size+2) #[.int .i64 kd,.int .i64 p,.int .i64 sr,.int .i64 q,.string nm,.slice a1 n1 c1,.slice a2 n2 c2])=w3 at *
 have o2:w3.cell? ⟨w.heap.size+2,2,none⟩=some (.int .i64 sr):=by rw [cell_of HN3.out.op 2];rfl
 have z2':w3.cell? ⟨V,2,none⟩=some (.int .i64 xs):=by rw [cell_of (HVW.out _ HN3.out.bel) 2];rfl
 go_quiet (fail)
 have HN4:=Lib.hid (HN3.out.below (below_drewN (Below.refl _ _) nq))
 clear HN3 o2 z2'
 generalize w3.drewN nq=w4 at *
 go_upto_if 25 with fail
 go_cut [] (fun wx=>NX w wx #[.int .i64 kd,.int .i64 p,.int .i64 sr,.int .i64 q,.string nm,.slice a1 n1 c1,.slice a2 n2 c2] C)
 case first=>
  by_cases hs:sr=xs
  rotate_left
  ·have f:(sr == xs)=false:=by rw [beq_eq_false_iff_ne];exact hs
   have HC1:Hid (C=s):=by show _=_;rw [HC.out,if_neg hs]
   go_wp2_with fail
   go_meet
   rw [HC1.out]
   exact HN4.out
  have HC1:Hid (C=if p=xp∧lies ⟨xp,xs,xb,xf⟩ j=true then ownV (mutesV s KD) KD q else mutesV s KD):=by show _=_;rw [HC.out,if_pos hs]
  have f:(sr == xs)=true:=by rw [beq_iff_eq];exact hs
  have CO4:=Lib.hid (CO.out _ HN4.out.bel)
  have v0:w4.cell? ⟨V,0,none⟩=some (.pointer (some ⟨k,0,none⟩)):=by rw [cell_of (HVW.out _ HN4.out.bel) 0];rfl
  clear HC hs
  have hKK:KD=4∨KD=9∨KD=8∨(KD≠4∧KD≠9∧KD≠8):=by omega
  rcases hKK with hK|hK|hK|⟨hK4,hK9,hK8⟩
  ·subst hK
   have u1:=cell_of HN4.out.st 1
   have u3:=cell_of HN4.out.st 3
   have f1:=frozen_of HN4.out.st 1
   have f3:=frozen_of HN4.out.st 3
   simp only [stCells,List.getElem?_toArray,List.getElem?_cons_zero,List.getElem?_cons_succ] at u1 u3
   go_upto_region 9 with (go_at_call 143;refine CO4.out.mono ?_;rintro e w' ⟨rfl,rfl⟩)
   have HN5:Hid (NX w (w4.setCell ⟨w.heap.size,3,none⟩ (.bool false)) #[.int .i64 kd,.int .i64 p,.int .i64 sr,.int .i64 q,.string nm,.slice a1 n1 c1,.slice a2 n2 c2] (mutesV s 4)):=HN4.out.set 3 (.bool false) ⟨s.want,s.cur,s.paused,false⟩ rfl
   clear HN4 u1 u3 f1 f3 v0 CO4
   generalize w4.setCell ⟨w.heap.size,3,none⟩ (.bool false)=w5 at *
   have p1:w5.cell? ⟨w.heap.size+2,1,none⟩=some (.int .i64 p):=by rw [cell_of HN5.out.op 1];rfl
   have x1':w5.cell? ⟨V,1,none⟩=some (.int .i64 xp):=by rw [cell_of (HVW.out _ HN5.out.bel) 1];rfl
   by_cases hp:p=xp
   rotate_left
   ·have fp:(p == xp)=false:=by rw [beq_eq_false_iff_ne];exact hp
    have HC2:Hid (C=mutesV s 4):=by show _=_;rw [HC1.out,if_neg (fun h=>hp h.1)]
    go_quiet (fail)
    exact Yx51
   have fp:(p == xp)=true:=by rw [beq_iff_eq];exact hp
   have CL:Hid (∀ n,Calls Tryz.prog 115 #[.pointer (some ⟨V,0,none⟩),.int .i64 (j:Int)] (w5.drewN n) fun e w'=>e = .returned (.bool (lies ⟨xp,xs,xb,xf⟩ (j:Int)))∧w'=w5.drewN n):=fun n=>(Vlies_any V xp xs xb xf wv cv qv _ (w5.drewN n) (HVW.out w5 HN5.out.bel) (j:Int)).mono fun e w' ⟨a,b⟩=>⟨a,b.symm⟩
   generalize lies ⟨xp,xs,xb,xf⟩ (j:Int)=l at *
   cases l with
   | false=>
    have HC2:Hid (C=mutesV s 4):=by show _=_;rw [HC1.out,if_neg (fun h=>absurd h.2 (by decide))]
    go_quiet ((go_at_call 115;exact Calls.quiet_of_same (CL.out _)))
    exact Yx51
   | true=>
    have HC2:Hid (C=ownV (mutesV s 4) 4 q):=by show _=_;rw [HC1.out,if_pos ⟨hp,rfl⟩]
    go_quiet ((go_at_call 115;exact Calls.quiet_of_same (CL.out _)))
    have HN6:=Lib.hid (HN5.out.below (below_drewN (Below.refl _ _) nq))
    clear p1 x1' CL HN5
    generalize w5.drewN nq=w6 at *
    have KEEP:Hid (∀ w',Below w6.heap.size w6 w'→w'.rangeAt w.heap.size 0 [.int .i64 (mutesV s 4).want,.int .i64 (mutesV s 4).cur,.bool (mutesV s 4).paused,.bool (mutesV s 4).muted]∧w'.cell? ⟨V,0,none⟩=some (.pointer (some ⟨k,0,none⟩))∧w'.cell? ⟨w.heap.size+2,3,none⟩=some (.int .i64 q)∧Below w6.heap.size w6 w'):=fun w' hb=>
     ⟨fun m v hm=>by rw [Nat.zero_add,cell_of (HN6.out.below hb).st m];simpa [stCells] using hm,by rw [cell_of (HVW.out _ (HN6.out.below hb).bel) 0];rfl,by rw [cell_of (HN6.out.below hb).op 3];rfl,hb⟩
    have COP:=Lib.hid (CO.out _ (HN6.out.below (Below.refl _ _).drew).bel)
    have COW:=Lib.hid (Vown_any (mutesV s 4) 4 q w6.drew)
    go_upto_region 10 with fail
    refine wp_region_noPanic ?_
    refine AnyT.region_start (d:=10) (S:=(fun w'=>w'.rangeAt w.heap.size 0 [.int .i64 (mutesV s 4).want,.int .i64 (mutesV s 4).cur,.bool (mutesV s 4).paused,.bool (mutesV s 4).muted]∧w'.cell? ⟨V,0,none⟩=some (.pointer (some ⟨k,0,none⟩))∧w'.cell? ⟨w.heap.size+2,3,none⟩=some (.int .i64 q)∧Below w6.heap.size w6 w')) Yo3 ?_ (fun _=>?_)
    ·(try dsimp only)
     exact KEEP.out _ (Below.refl _ _).drew
    refine YP 1 (h:=YP 2 (h:=YP 3 (h:=YP 5 (h:=YP 7 (h:=?_)))))
    refine AnyT.tk 0 ?_ rfl ?_ <| ?_
    rotate_left
    ·intro wS hSw;(try dsimp only at hSw)
     refine (exec_load_mid 202 (.tmp 4) ?_ w.heap.size 0 ?_ [.int .i64 (mutesV s 4).want,.int .i64 (mutesV s 4).cur,.bool (mutesV s 4).paused,.bool (mutesV s 4).muted] _ hSw.1 Tryz.underlying202 rfl Yo3).trans ?_
     all_goals rfl
    try simp only [AnyT.pt]
    refine YK 4 (h:=YK 8 (h:=?_))
    refine YR 6 (h:=fun K hK=>?_)
    go_simp
    refine COP.out.mono ?_
    rintro e w' ⟨rfl,rfl⟩
    go_wp2_with fail
    refine AnyT.go_on hK _ _ ?_ (fun _=>?_)
    ·(try dsimp only)
     exact KEEP.out _ Yo13
    clear hK K
    try simp only [AnyT.pt]
    refine YR 9 (h:=fun K hK=>?_)
    go_simp
    refine COW.out.mono ?_
    rintro e w7 ⟨rfl,hb7⟩
    have HB7:=Lib.hid ((Below.refl w6.heap.size w6).drew.trans hb7)
    clear hb7
    go_wp2_with fail
    refine AnyT.go_on hK _ _ ?_ (fun _=>?_)
    ·(try dsimp only)
     exact KEEP.out _ Yo13
    clear hK K
    try simp only [AnyT.pt]
    refine YR 10 (h:=fun K hK=>?_)
    have HN7:=Lib.hid (HN6.out.below HB7.out)
    refine step_row (by rfl) 202 (.tmp 4) (.tmp 62) (by rfl) (by rfl) w.heap.size (stCells (ownV (mutesV s 4) 4 q)).toArray (by rfl) (by rfl) 202 _ HN7.out.st Yo3 (by rfl) (st_one _) ?_
    exact Yx72
  ·subst hK
   have u1:=cell_of HN4.out.st 1
   have u3:=cell_of HN4.out.st 3
   have f1:=frozen_of HN4.out.st 1
   have f3:=frozen_of HN4.out.st 3
   simp only [stCells,List.getElem?_toArray,List.getElem?_cons_zero,List.getElem?_cons_succ] at u1 u3
   go_upto_region 9 with (go_at_call 143;refine CO4.out.mono ?_;rintro e w' ⟨rfl,rfl⟩)
   have HN5:Hid (NX w (w4.setCell ⟨w.heap.size,3,none⟩ (.bool false)) #[.int .i64 kd,.int .i64 p,.int .i64 sr,.int .i64 q,.string nm,.slice a1 n1 c1,.slice a2 n2 c2] (mutesV s 9)):=HN4.out.set 3 (.bool false) ⟨s.want,s.cur,s.paused,false⟩ rfl
   clear HN4 u1 u3 f1 f3 v0 CO4
   generalize w4.setCell ⟨w.heap.size,3,none⟩ (.bool false)=w5 at *
   have p1:w5.cell? ⟨w.heap.size+2,1,none⟩=some (.int .i64 p):=by rw [cell_of HN5.out.op 1];rfl
   have x1':w5.cell? ⟨V,1,none⟩=some (.int .i64 xp):=by rw [cell_of (HVW.out _ HN5.out.bel) 1];rfl
   by_cases hp:p=xp
   rotate_left
   ·have fp:(p == xp)=false:=by rw [beq_eq_false_iff_ne];exact hp
    have HC2:Hid (C=mutesV s 9):=by show _=_;rw [HC1.out,if_neg (fun h=>hp h.1)]
    go_quiet (fail)
    exact Yx51
   have fp:(p == xp)=true:=by rw [beq_iff_eq];exact hp
   have CL:Hid (∀ n,Calls Tryz.prog 115 #[.pointer (some ⟨V,0,none⟩),.int .i64 (j:Int)] (w5.drewN n) fun e w'=>e = .returned (.bool (lies ⟨xp,xs,xb,xf⟩ (j:Int)))∧w'=w5.drewN n):=fun n=>(Vlies_any V xp xs xb xf wv cv qv _ (w5.drewN n) (HVW.out w5 HN5.out.bel) (j:Int)).mono fun e w' ⟨a,b⟩=>⟨a,b.symm⟩
   generalize lies ⟨xp,xs,xb,xf⟩ (j:Int)=l at *
   cases l with
   | false=>
    have HC2:Hid (C=mutesV s 9):=by show _=_;rw [HC1.out,if_neg (fun h=>absurd h.2 (by decide))]
    go_quiet ((go_at_call 115;exact Calls.quiet_of_same (CL.out _)))
    exact Yx51
   | true=>
    have HC2:Hid (C=ownV (mutesV s 9) 9 q):=by show _=_;rw [HC1.out,if_pos ⟨hp,rfl⟩]
    go_quiet ((go_at_call 115;exact Calls.quiet_of_same (CL.out _)))
    have HN6:=Lib.hid (HN5.out.below (below_drewN (Below.refl _ _) nq))
    clear p1 x1' CL HN5
    generalize w5.drewN nq=w6 at *
    have KEEP:Hid (∀ w',Below w6.heap.size w6 w'→w'.rangeAt w.heap.size 0 [.int .i64 (mutesV s 9).want,.int .i64 (mutesV s 9).cur,.bool (mutesV s 9).paused,.bool (mutesV s 9).muted]∧w'.cell? ⟨V,0,none⟩=some (.pointer (some ⟨k,0,none⟩))∧w'.cell? ⟨w.heap.size+2,3,none⟩=some (.int .i64 q)∧Below w6.heap.size w6 w'):=fun w' hb=>
     ⟨fun m v hm=>by rw [Nat.zero_add,cell_of (HN6.out.below hb).st m];simpa [stCells] using hm,by rw [cell_of (HVW.out _ (HN6.out.below hb).bel) 0];rfl,by rw [cell_of (HN6.out.below hb).op 3];rfl,hb⟩
    have COP:=Lib.hid (CO.out _ (HN6.out.below (Below.refl _ _).drew).bel)
    have COW:=Lib.hid (Vown_any (mutesV s 9) 9 q w6.drew)
    go_upto_region 10 with fail
    refine wp_region_noPanic ?_
    refine AnyT.region_start (d:=10) (S:=(fun w'=>w'.rangeAt w.heap.size 0 [.int .i64 (mutesV s 9).want,.int .i64 (mutesV s 9).cur,.bool (mutesV s 9).paused,.bool (mutesV s 9).muted]∧w'.cell? ⟨V,0,none⟩=some (.pointer (some ⟨k,0,none⟩))∧w'.cell? ⟨w.heap.size+2,3,none⟩=some (.int .i64 q)∧Below w6.heap.size w6 w')) Yo3 ?_ (fun _=>?_)
    ·(try dsimp only)
     exact KEEP.out _ (Below.refl _ _).drew
    refine YP 1 (h:=YP 2 (h:=YP 3 (h:=YP 5 (h:=YP 7 (h:=?_)))))
    refine AnyT.tk 0 ?_ rfl ?_ <| ?_
    rotate_left
    ·intro wS hSw;(try dsimp only at hSw)
     refine (exec_load_mid 202 (.tmp 4) ?_ w.heap.size 0 ?_ [.int .i64 (mutesV s 9).want,.int .i64 (mutesV s 9).cur,.bool (mutesV s 9).paused,.bool (mutesV s 9).muted] _ hSw.1 Tryz.underlying202 rfl Yo3).trans ?_
     all_goals rfl
    try simp only [AnyT.pt]
    refine YK 4 (h:=YK 8 (h:=?_))
    refine YR 6 (h:=fun K hK=>?_)
    go_simp
    refine COP.out.mono ?_
    rintro e w' ⟨rfl,rfl⟩
    go_wp2_with fail
    refine AnyT.go_on hK _ _ ?_ (fun _=>?_)
    ·(try dsimp only)
     exact KEEP.out _ Yo13
    clear hK K
    try simp only [AnyT.pt]
    refine YR 9 (h:=fun K hK=>?_)
    go_simp
    refine COW.out.mono ?_
    rintro e w7 ⟨rfl,hb7⟩
    have HB7:=Lib.hid ((Below.refl w6.heap.size w6).drew.trans hb7)
    clear hb7
    go_wp2_with fail
    refine AnyT.go_on hK _ _ ?_ (fun _=>?_)
    ·(try dsimp only)
     exact KEEP.out _ Yo13
    clear hK K
    try simp only [AnyT.pt]
    refine YR 10 (h:=fun K hK=>?_)
    have HN7:=Lib.hid (HN6.out.below HB7.out)
    refine step_row (by rfl) 202 (.tmp 4) (.tmp 62) (by rfl) (by rfl) w.heap.size (stCells (ownV (mutesV s 9) 9 q)).toArray (by rfl) (by rfl) 202 _ HN7.out.st Yo3 (by rfl) (st_one _) ?_
    exact Yx72
  ·subst hK
   have u1:=cell_of HN4.out.st 1
   have u3:=cell_of HN4.out.st 3
   have f1:=frozen_of HN4.out.st 1
   have f3:=frozen_of HN4.out.st 3
   simp only [stCells,List.getElem?_toArray,List.getElem?_cons_zero,List.getElem?_cons_succ] at u1 u3
   go_upto_region 9 with (go_at_call 143;refine CO4.out.mono ?_;rintro e w' ⟨rfl,rfl⟩)
   have HN5:Hid (NX w ((w4.setCell ⟨w.heap.size,3,none⟩ (.bool true)).setCell ⟨w.heap.size,1,none⟩ (.int .i64 (-1))) #[.int .i64 kd,.int .i64 p,.int .i64 sr,.int .i64 q,.string nm,.slice a1 n1 c1,.slice a2 n2 c2] (mutesV s 8)):=(HN4.out.set 3 (.bool true) ⟨s.want,s.cur,s.paused,true⟩ rfl).set 1 (.int .i64 (-1)) ⟨s.want,-1,s.paused,true⟩ rfl
   clear HN4 u1 u3 f1 f3 v0 CO4
   generalize (w4.setCell ⟨w.heap.size,3,none⟩ (.bool true)).setCell ⟨w.heap.size,1,none⟩ (.int .i64 (-1))=w5 at *
   have p1:w5.cell? ⟨w.heap.size+2,1,none⟩=some (.int .i64 p):=by rw [cell_of HN5.out.op 1];rfl
   have x1':w5.cell? ⟨V,1,none⟩=some (.int .i64 xp):=by rw [cell_of (HVW.out _ HN5.out.bel) 1];rfl
   by_cases hp:p=xp
   rotate_left
   ·have fp:(p == xp)=false:=by rw [beq_eq_false_iff_ne];exact hp
    have HC2:Hid (C=mutesV s 8):=by show _=_;rw [HC1.out,if_neg (fun h=>hp h.1)]
    go_quiet (fail)
    exact Yx51
   have fp:(p == xp)=true:=by rw [beq_iff_eq];exact hp
   have CL:Hid (∀ n,Calls Tryz.prog 115 #[.pointer (some ⟨V,0,none⟩),.int .i64 (j:Int)] (w5.drewN n) fun e w'=>e = .returned (.bool (lies ⟨xp,xs,xb,xf⟩ (j:Int)))∧w'=w5.drewN n):=fun n=>(Vlies_any V xp xs xb xf wv cv qv _ (w5.drewN n) (HVW.out w5 HN5.out.bel) (j:Int)).mono fun e w' ⟨a,b⟩=>⟨a,b.symm⟩
   generalize lies ⟨xp,xs,xb,xf⟩ (j:Int)=l at *
   cases l with
   | false=>
    have HC2:Hid (C=mutesV s 8):=by show _=_;rw [HC1.out,if_neg (fun h=>absurd h.2 (by decide))]
    go_quiet ((go_at_call 115;exact Calls.quiet_of_same (CL.out _)))
    exact Yx51
   | true=>
    have HC2:Hid (C=ownV (mutesV s 8) 8 q):=by show _=_;rw [HC1.out,if_pos ⟨hp,rfl⟩]
    go_quiet ((go_at_call 115;exact Calls.quiet_of_same (CL.out _)))
    have HN6:=Lib.hid (HN5.out.below (below_drewN (Below.refl _ _) nq))
    clear p1 x1' CL HN5
    generalize w5.drewN nq=w6 at *
    have KEEP:Hid (∀ w',Below w6.heap.size w6 w'→w'.rangeAt w.heap.size 0 [.int .i64 (mutesV s 8).want,.int .i64 (mutesV s 8).cur,.bool (mutesV s 8).paused,.bool (mutesV s 8).muted]∧w'.cell? ⟨V,0,none⟩=some (.pointer (some ⟨k,0,none⟩))∧w'.cell? ⟨w.heap.size+2,3,none⟩=some (.int .i64 q)∧Below w6.heap.size w6 w'):=fun w' hb=>
     ⟨fun m v hm=>by rw [Nat.zero_add,cell_of (HN6.out.below hb).st m];simpa [stCells] using hm,by rw [cell_of (HVW.out _ (HN6.out.below hb).bel) 0];rfl,by rw [cell_of (HN6.out.below hb).op 3];rfl,hb⟩
    have COP:=Lib.hid (CO.out _ (HN6.out.below (Below.refl _ _).drew).bel)
    have COW:=Lib.hid (Vown_any (mutesV s 8) 8 q w6.drew)
    go_upto_region 10 with fail
    refine wp_region_noPanic ?_
    refine AnyT.region_start (d:=10) (S:=(fun w'=>w'.rangeAt w.heap.size 0 [.int .i64 (mutesV s 8).want,.int .i64 (mutesV s 8).cur,.bool (mutesV s 8).paused,.bool (mutesV s 8).muted]∧w'.cell? ⟨V,0,none⟩=some (.pointer (some ⟨k,0,none⟩))∧w'.cell? ⟨w.heap.size+2,3,none⟩=some (.int .i64 q)∧Below w6.heap.size w6 w')) Yo3 ?_ (fun _=>?_)
    ·(try dsimp only)
     exact KEEP.out _ (Below.refl _ _).drew
    refine YP 1 (h:=YP 2 (h:=YP 3 (h:=YP 5 (h:=YP 7 (h:=?_)))))
    refine AnyT.tk 0 ?_ rfl ?_ <| ?_
    rotate_left
    ·intro wS hSw;(try dsimp only at hSw)
     refine (exec_load_mid 202 (.tmp 4) ?_ w.heap.size 0 ?_ [.int .i64 (mutesV s 8).want,.int .i64 (mutesV s 8).cur,.bool (mutesV s 8).paused,.bool (mutesV s 8).muted] _ hSw.1 Tryz.underlying202 rfl Yo3).trans ?_
     all_goals rfl
    try simp only [AnyT.pt]
    refine YK 4 (h:=YK 8 (h:=?_))
    refine YR 6 (h:=fun K hK=>?_)
    go_simp
    refine COP.out.mono ?_
    rintro e w' ⟨rfl,rfl⟩
    go_wp2_with fail
    refine AnyT.go_on hK _ _ ?_ (fun _=>?_)
    ·(try dsimp only)
     exact KEEP.out _ Yo13
    clear hK K
    try simp only [AnyT.pt]
    refine YR 9 (h:=fun K hK=>?_)
    go_simp
    refine COW.out.mono ?_
    rintro e w7 ⟨rfl,hb7⟩
    have HB7:=Lib.hid ((Below.refl w6.heap.size w6).drew.trans hb7)
    clear hb7
    go_wp2_with fail
    refine AnyT.go_on hK _ _ ?_ (fun _=>?_)
    ·(try dsimp only)
     exact KEEP.out _ Yo13
    clear hK K
    try simp only [AnyT.pt]
    refine YR 10 (h:=fun K hK=>?_)
    have HN7:=Lib.hid (HN6.out.below HB7.out)
    refine step_row (by rfl) 202 (.tmp 4) (.tmp 62) (by rfl) (by rfl) w.heap.size (stCells (ownV (mutesV s 8) 8 q)).toArray (by rfl) (by rfl) 202 _ HN7.out.st Yo3 (by rfl) (st_one _) ?_
    exact Yx72
  ·have g4:(KD == 4)=false:=by rw [beq_eq_false_iff_ne];exact hK4
   have g9:(KD == 9)=false:=by rw [beq_eq_false_iff_ne];exact hK9
   have g8:(KD == 8)=false:=by rw [beq_eq_false_iff_ne];exact hK8
   have HMU:Hid (mutesV s KD=s):=by show _=_;unfold mutesV;rw [if_neg (by omega),if_neg hK8]
   have HC3:Hid (C=if p=xp∧lies ⟨xp,xs,xb,xf⟩ j=true then ownV s KD q else s):=by show _=_;rw [HC1.out,HMU.out]
   clear HC1 HMU
   have HC1:=HC3
   clear HC3
   go_upto_region 9 with (go_at_call 143;refine CO4.out.mono ?_;rintro e w' ⟨rfl,rfl⟩)
   have HN5:=HN4
   clear HN4 v0 CO4
   obtain ⟨w5,rfl⟩:∃ W:World,W=w4:=⟨_,rfl⟩
   have p1:w5.cell? ⟨w.heap.size+2,1,none⟩=some (.int .i64 p):=by rw [cell_of HN5.out.op 1];rfl
   have x1':w5.cell? ⟨V,1,none⟩=some (.int .i64 xp):=by rw [cell_of (HVW.out _ HN5.out.bel) 1];rfl
   by_cases hp:p=xp
   rotate_left
   ·have fp:(p == xp)=false:=by rw [beq_eq_false_iff_ne];exact hp
    have HC2:Hid (C=s):=by show _=_;rw [HC1.out,if_neg (fun h=>hp h.1)]
    go_quiet (fail)
    exact Yx51
   have fp:(p == xp)=true:=by rw [beq_iff_eq];exact hp
   have CL:Hid (∀ n,Calls Tryz.prog 115 #[.pointer (some ⟨V,0,none⟩),.int .i64 (j:Int)] (w5.drewN n) fun e w'=>e = .returned (.bool (lies ⟨xp,xs,xb,xf⟩ (j:Int)))∧w'=w5.drewN n):=fun n=>(Vlies_any V xp xs xb xf wv cv qv _ (w5.drewN n) (HVW.out w5 HN5.out.bel) (j:Int)).mono fun e w' ⟨a,b⟩=>⟨a,b.symm⟩
   generalize lies ⟨xp,xs,xb,xf⟩ (j:Int)=l at *
   cases l with
   | false=>
    have HC2:Hid (C=s):=by show _=_;rw [HC1.out,if_neg (fun h=>absurd h.2 (by decide))]
    go_quiet ((go_at_call 115;exact Calls.quiet_of_same (CL.out _)))
    exact Yx51
   | true=>
    have HC2:Hid (C=ownV (s) KD q):=by show _=_;rw [HC1.out,if_pos ⟨hp,rfl⟩]
    go_quiet ((go_at_call 115;exact Calls.quiet_of_same (CL.out _)))
    have HN6:=Lib.hid (HN5.out.below (below_drewN (Below.refl _ _) nq))
    clear p1 x1' CL HN5
    generalize w5.drewN nq=w6 at *
    have KEEP:Hid (∀ w',Below w6.heap.size w6 w'→w'.rangeAt w.heap.size 0 [.int .i64 (s).want,.int .i64 (s).cur,.bool (s).paused,.bool (s).muted]∧w'.cell? ⟨V,0,none⟩=some (.pointer (some ⟨k,0,none⟩))∧w'.cell? ⟨w.heap.size+2,3,none⟩=some (.int .i64 q)∧Below w6.heap.size w6 w'):=fun w' hb=>
     ⟨fun m v hm=>by rw [Nat.zero_add,cell_of (HN6.out.below hb).st m];simpa [stCells] using hm,by rw [cell_of (HVW.out _ (HN6.out.below hb).bel) 0];rfl,by rw [cell_of (HN6.out.below hb).op 3];rfl,hb⟩
    have COP:=Lib.hid (CO.out _ (HN6.out.below (Below.refl _ _).drew).bel)
    have COW:=Lib.hid (Vown_any (s) KD q w6.drew)
    go_upto_region 10 with fail
    refine wp_region_noPanic ?_
    refine AnyT.region_start (d:=10) (S:=(fun w'=>w'.rangeAt w.heap.size 0 [.int .i64 (s).want,.int .i64 (s).cur,.bool (s).paused,.bool (s).muted]∧w'.cell? ⟨V,0,none⟩=some (.pointer (some ⟨k,0,none⟩))∧w'.cell? ⟨w.heap.size+2,3,none⟩=some (.int .i64 q)∧Below w6.heap.size w6 w')) Yo3 ?_ (fun _=>?_)
    ·(try dsimp only)
     exact KEEP.out _ (Below.refl _ _).drew
    refine YP 1 (h:=YP 2 (h:=YP 3 (h:=YP 5 (h:=YP 7 (h:=?_)))))
    refine AnyT.tk 0 ?_ rfl ?_ <| ?_
    rotate_left
    ·intro wS hSw;(try dsimp only at hSw)
     refine (exec_load_mid 202 (.tmp 4) ?_ w.heap.size 0 ?_ [.int .i64 (s).want,.int .i64 (s).cur,.bool (s).paused,.bool (s).muted] _ hSw.1 Tryz.underlying202 rfl Yo3).trans ?_
     all_goals rfl
    try simp only [AnyT.pt]
    refine YK 4 (h:=YK 8 (h:=?_))
    refine YR 6 (h:=fun K hK=>?_)
    go_simp
    refine COP.out.mono ?_
    rintro e w' ⟨rfl,rfl⟩
    go_wp2_with fail
    refine AnyT.go_on hK _ _ ?_ (fun _=>?_)
    ·(try dsimp only)
     exact KEEP.out _ Yo13
    clear hK K
    try simp only [AnyT.pt]
    refine YR 9 (h:=fun K hK=>?_)
    go_simp
    refine COW.out.mono ?_
    rintro e w7 ⟨rfl,hb7⟩
    have HB7:=Lib.hid ((Below.refl w6.heap.size w6).drew.trans hb7)
    clear hb7
    go_wp2_with fail
    refine AnyT.go_on hK _ _ ?_ (fun _=>?_)
    ·(try dsimp only)
     exact KEEP.out _ Yo13
    clear hK K
    try simp only [AnyT.pt]
    refine YR 10 (h:=fun K hK=>?_)
    have HN7:=Lib.hid (HN6.out.below HB7.out)
    refine step_row (by rfl) 202 (.tmp 4) (.tmp 62) (by rfl) (by rfl) w.heap.size (stCells (ownV (s) KD q)).toArray (by rfl) (by rfl) 202 _ HN7.out.st Yo3 (by rfl) (st_one _) ?_
    exact Yx72
 case rest=>
  obtain ⟨w9,rfl⟩:∃ W:World,W=wc:=⟨_,rfl⟩
  have HN9:=Lib.hid hcut
  clear hcut HN4 HC CO
  have CP9:=Lib.hid (CP.out _ HN9.out.bel)
  obtain ⟨ca,cc,cp,cm⟩:=C
  cases pk with
  | false=>
   have HX1:Hid (X=⟨ca,cc,cp,cm⟩):=by show _=_;rw [HX.out];rfl
   clear HX CN
   go_wp2_with (first|(go_at_call 88;refine CP9.out.mono ?_;rintro e w10 ⟨rfl,hb10⟩;have HNa:=Lib.hid (HN9.out.below hb10);have kA:w10.heap[w.heap.size]?=some (.cells #[.int .i64 ca,.int .i64 cc,.bool cp,.bool cm] 202 (0,0)):=HNa.out.st;have zA:=HNa.out.z;clear hb10)|(with_reducible refine load_at 202 (.tmp 4) rfl ?_;refine load_rowTo2 rfl 202 (.tmp 4) rfl w.heap.size rfl 202 #[.int .i64 ca,.int .i64 cc,.bool cp,.bool cm] (0,0) _ kA Tryz.underlying202 rfl Yo3 ?_)|(with_reducible refine store_at 202 (.tmp 6) (.tmp 84) rfl ?_;refine store_rowTo2 rfl 202 (.tmp 6) (.tmp 84) rfl rfl (w.heap.size+1) #[.int .i64 ca,.int .i64 cc,.bool cp,.bool cm] rfl rfl 202 #[.int .i64 0,.int .i64 0,.bool false,.bool false] zA Yo3 Yo3 Yo3 ?_))
   exact Yx90
  | true=>
   cases opn with
   | false=>
    have HX1:Hid (X=⟨ca,cc,cp,cm⟩):=by show _=_;rw [HX.out];rfl
    clear HX
    go_wp2_with (first|(go_at_call 88;refine CP9.out.mono ?_;rintro e w10 ⟨rfl,hb10⟩;have HNa:=Lib.hid (HN9.out.below hb10);have kA:w10.heap[w.heap.size]?=some (.cells #[.int .i64 ca,.int .i64 cc,.bool cp,.bool cm] 202 (0,0)):=HNa.out.st;have zA:=HNa.out.z;have CN10:=Lib.hid (CN.out _ HNa.out.bel);clear hb10)|(go_at_call 89;refine CN10.out.mono ?_;rintro e w11 ⟨rfl,hb11⟩;have HNb:=Lib.hid (HNa.out.below hb11);clear HNa kA zA hb11;obtain ⟨w10,rfl⟩:∃ W:World,W=w11:=⟨_,rfl⟩;have HNa:=HNb;clear HNb;have kA:w10.heap[w.heap.size]?=some (.cells #[.int .i64 ca,.int .i64 cc,.bool cp,.bool cm] 202 (0,0)):=HNa.out.st;have zA:=HNa.out.z)|(with_reducible refine load_at 202 (.tmp 4) rfl ?_;refine load_rowTo2 rfl 202 (.tmp 4) rfl w.heap.size rfl 202 #[.int .i64 ca,.int .i64 cc,.bool cp,.bool cm] (0,0) _ kA Tryz.underlying202 rfl Yo3 ?_)|(with_reducible refine store_at 202 (.tmp 6) (.tmp 84) rfl ?_;refine store_rowTo2 rfl 202 (.tmp 6) (.tmp 84) rfl rfl (w.heap.size+1) #[.int .i64 ca,.int .i64 cc,.bool cp,.bool cm] rfl rfl 202 #[.int .i64 0,.int .i64 0,.bool false,.bool false] zA Yo3 Yo3 Yo3 ?_))
    exact Yx90
   | true=>
    have HX1:Hid (X=⟨ca,ly,cp,cm⟩):=by show _=_;rw [HX.out];rfl
    clear HX
    go_upto_region 12 with (first|(go_at_call 88;refine CP9.out.mono ?_;rintro e w10 ⟨rfl,hb10⟩;have HNa:=Lib.hid (HN9.out.below hb10);have kA:w10.heap[w.heap.size]?=some (.cells #[.int .i64 ca,.int .i64 cc,.bool cp,.bool cm] 202 (0,0)):=HNa.out.st;have zA:=HNa.out.z;have CN10:=Lib.hid (CN.out _ HNa.out.bel);clear hb10)|(go_at_call 89;refine CN10.out.mono ?_;rintro e w11 ⟨rfl,hb11⟩;have HNb:=Lib.hid (HNa.out.below hb11);clear HNa kA zA hb11;obtain ⟨w10,rfl⟩:∃ W:World,W=w11:=⟨_,rfl⟩;have HNa:=HNb;clear HNb;have kA:w10.heap[w.heap.size]?=some (.cells #[.int .i64 ca,.int .i64 cc,.bool cp,.bool cm] 202 (0,0)):=HNa.out.st;have zA:=HNa.out.z))
    have v0:w10.cell? ⟨V,0,none⟩=some (.pointer (some ⟨k,0,none⟩)):=by rw [cell_of (HVW.out _ HNa.out.bel) 0];rfl
    have b2:w10.cell? ⟨k,2,none⟩=some (.slice (some ⟨g9,o9,none⟩) L.length c9):=by rw [cell_of (HBK.out _ HNa.out.bel) 2];rfl
    have hly:=HLY.out _ HNa.out.bel
    have u1:=cell_of HNa.out.st 1
    have f1:=frozen_of HNa.out.st 1
    simp only [stCells,List.getElem?_toArray,List.getElem?_cons_zero,List.getElem?_cons_succ] at u1
    go_upto_region 13 with fail
    have HNb:Hid (NX w (w10.setCell ⟨w.heap.size,1,none⟩ (.int .i64 ly)) #[.int .i64 kd,.int .i64 p,.int .i64 sr,.int .i64 q,.string nm,.slice a1 n1 c1,.slice a2 n2 c2] ⟨ca,ly,cp,cm⟩):=HNa.out.set 1 (.int .i64 ly) ⟨ca,ly,cp,cm⟩ rfl
    clear HNa kA zA v0 b2 hly u1 f1
    generalize w10.setCell ⟨w.heap.size,1,none⟩ (.int .i64 ly)=w11 at *
    have kA:w11.heap[w.heap.size]?=some (.cells #[.int .i64 ca,.int .i64 ly,.bool cp,.bool cm] 202 (0,0)):=HNb.out.st
    have zA:=HNb.out.z
    go_wp2_with (first|(with_reducible refine load_at 202 (.tmp 4) rfl ?_;refine load_rowTo2 rfl 202 (.tmp 4) rfl w.heap.size rfl 202 #[.int .i64 ca,.int .i64 ly,.bool cp,.bool cm] (0,0) _ kA Tryz.underlying202 rfl Yo3 ?_)|(with_reducible refine store_at 202 (.tmp 6) (.tmp 84) rfl ?_;refine store_rowTo2 rfl 202 (.tmp 6) (.tmp 84) rfl rfl (w.heap.size+1) #[.int .i64 ca,.int .i64 ly,.bool cp,.bool cm] rfl rfl 202 #[.int .i64 0,.int .i64 0,.bool false,.bool false] zA Yo3 Yo3 Yo3 ?_))
    refine bodyPost_ret (v:= .agg #[.int .i64 ca,.int .i64 ly,.bool cp,.bool cm]) ?_ rfl ?_
    ·exact results_cell_row (by rfl) _ _ (w.heap.size+1) 202 #[.int .i64 ca,.int .i64 ly,.bool cp,.bool cm] (0,0) _ (by rfl) (setRow_heap _ _ _ _ _ _ zA) Tryz.underlying202 rfl Yo3
    exact ⟨by rw [HX1.out],below_setRow HNb.out.bel (Nat.le_succ _) _⟩
end
end Go.Proofs.By
set_option linter.unusedSimpArgs false
namespace Go.Proofs.By
open Go.RowKit Go.Proofs.Heap Go.Proofs
open Go.Proofs.Rm (below_drewN)
theorem life_cells {w:World} {a:Option Addr} {n c:Nat} {l:List Life} (h:Row w 59 (.slice a n c) n (l.flatMap lifeCells)) {j:Nat} {z:Life} (hz:l[j]?=some z):∃ g o,a=some ⟨g,o,none⟩ ∧
  w.cell? ⟨g,o+j*4,none⟩=some (.int .i64 z.peer)∧w.cell? ⟨g,o+j*4+1,none⟩=some (.int .i64 z.source)∧w.cell? ⟨g,o+j*4+2,none⟩=some (.int .i64 z.bgn)∧w.cell? ⟨g,o+j*4+3,none⟩=some (.int .i64 z.fin):=by
 have hl:j<l.length:=(List.getElem?_eq_some_iff.1 hz).1
 obtain ⟨g,o,e,h2⟩:=row_atB lifeCells 4 (fun _=>rfl) h (by omega)
 exact ⟨g,o,e,h2 j z hz 0 (by omega),h2 j z hz 1 (by omega),h2 j z hz 2 (by omega),h2 j z hz 3 (by omega)⟩
set_option maxHeartbeats 2000000 in
theorem LIndex_any (lv:Value) (LS:List Life) (x:Life) (w:World) (h:Row w 59 lv LS.length (LS.flatMap lifeCells)) :
  Calls Tryz.prog 142 #[lv,.agg (lifeCells x).toArray] w fun e w'=>(∃ i:Int,e = .returned (.int .i64 i)∧(0≤i↔x∈LS))∧Below w.heap.size w w':=by
 obtain ⟨va,vc,rfl⟩:=Row.form h
 have hmx:LS.length≤maxLen:=by
  obtain ⟨a,c,e,h1,h2,_⟩:=h
  injection e with _ _ e
  omega
 unfold maxLen at hmx
 obtain ⟨p,s,b,f⟩:=x
 have HR:=Lib.hid h
 clear h
 dsimp only [lifeCells]
 have HB0:Hid (Below w.heap.size w (w.alloc (.cells #[.int .i64 p,.int .i64 s,.int .i64 b,.int .i64 f] 59))):=below_alloc w _
 have HZ0:Hid ((w.alloc (.cells #[.int .i64 p,.int .i64 s,.int .i64 b,.int .i64 f] 59)).heap[w.heap.size]?=some (.cells #[.int .i64 p,.int .i64 s,.int .i64 b,.int .i64 f] 59 (0,0))):=heap_new w _
 go_enter Tryz.func142,Tryz.ntmps142
 go_wp2_with fail
 generalize w.alloc (.cells #[.int .i64 p,.int .i64 s,.int .i64 b,.int .i64 f] 59)=w0 at *
 go_loopw [8] (fun s8 w'=>∃ j:Nat,j≤LS.length∧s8 = .int .i64 (j:Int)∧Below w.heap.size w w'∧w'.heap[w.heap.size]?=some (.cells #[.int .i64 p,.int .i64 s,.int .i64 b,.int .i64 f] 59 (0,0))∧Hid (∀ i,i<j→LS[i]?≠some ⟨p,s,b,f⟩)) (fun s8 _=>LS.length-(intOf s8).toNat)
 case atStart=>exact ⟨0,by omega,rfl,HB0.out,HZ0.out,fun i hi=>by omega⟩
 case round=>
  obtain ⟨j,hj,rfl,hbel,hz,HNO⟩:=hrel
  clear HB0 HZ0
  have HB:=Lib.hid hbel
  have HZ:=Lib.hid hz
  by_cases hjl:j<LS.length
  ·have hy:LS[j]?=some LS[j]:=List.getElem?_eq_getElem hjl
   obtain ⟨g,o,e,y0,y1,y2,y3⟩:=life_cells (HR.out.below hbel) hy
   cases e
   have z0:wr.cell? ⟨w.heap.size,0,none⟩=some (.int .i64 p):=by rw [cell_of hz 0];rfl
   have z1:wr.cell? ⟨w.heap.size,1,none⟩=some (.int .i64 s):=by rw [cell_of hz 1];rfl
   have z2:wr.cell? ⟨w.heap.size,2,none⟩=some (.int .i64 b):=by rw [cell_of hz 2];rfl
   have z3:wr.cell? ⟨w.heap.size,3,none⟩=some (.int .i64 f):=by rw [cell_of hz 3];rfl
   have hjI:(j:Int)<(LS.length:Int):=Int.ofNat_lt.2 hjl
   generalize hq:LS[j]=q at *
   have HY:=Lib.hid hy
   clear hy hq hbel hz
   obtain ⟨p',s',b',f'⟩:=q
   dsimp only at y0 y1 y2 y3
   by_cases he:(⟨p,s,b,f⟩:Life)=⟨p',s',b',f'⟩
   ·cases he
    go_wp2_with fail
    go_quiet (fail)
    have HB2:=Lib.hid (below_drewN HB.out nq)
    go_wp2_with fail
    go_ret
    exact ⟨⟨(j:Int),rfl,⟨fun _=>List.mem_of_getElem? HY.out,fun _=>by omega⟩⟩,HB2.out⟩
   ·have HN2:Hid (∀ i,i<j+1→LS[i]?≠some ⟨p,s,b,f⟩):=fun i hi hc=>by
     by_cases h:i=j
     ·rw [h,HY.out] at hc;exact he (Option.some.inj hc).symm
     ·exact HNO.out i (by omega) hc
    by_cases h1:p=p'
    rotate_left
    ·have f1:(p == p')=false:=by rw [beq_eq_false_iff_ne];exact h1
     exact Yx42
    subst h1
    by_cases h2:s=s'
    rotate_left
    ·have f1:(s == s')=false:=by rw [beq_eq_false_iff_ne];exact h2
     exact Yx42
    subst h2
    by_cases h3:b=b'
    rotate_left
    ·have f1:(b == b')=false:=by rw [beq_eq_false_iff_ne];exact h3
     exact Yx42
    subst h3
    have h4:f≠f':=fun h=>he (by rw [h])
    have f1:(f == f')=false:=by rw [beq_eq_false_iff_ne];exact h4
    exact Yx42
  ·have hjj:j=LS.length:=by omega
   have HN2:Hid ((⟨p,s,b,f⟩:Life) ∉ LS):=fun hm=>by
    obtain ⟨i,hi,hc⟩:=List.mem_iff_getElem.1 hm
    exact HNO.out i (by omega) (by rw [List.getElem?_eq_getElem hi,hc])
   clear hbel hz
   go_wp2_with fail
   go_ret
   exact ⟨⟨-1,rfl,⟨fun h=>absurd h (by decide),fun h=>absurd h HN2.out⟩⟩,HB.out⟩
theorem LContains_any (lv:Value) (LS:List Life) (x:Life) (w:World) (h:Row w 59 lv LS.length (LS.flatMap lifeCells)) :
  Calls Tryz.prog 113 #[lv,.agg (lifeCells x).toArray] w fun e w'=>e = .returned (.bool (decide (x∈LS)))∧Below w.heap.size w w':=by
 have HB0:Hid (Below w.heap.size w (w.alloc (.cells (lifeCells x).toArray 59))):=below_alloc w _
 have CI:=Lib.hid (LIndex_any lv LS x _ (Row.below h HB0.out))
 have HX:Hid (∀ i:Int,(0≤i↔x∈LS)→decide (0≤i)=decide (x∈LS)):=fun i hi=>by rw [Bool.eq_iff_iff,decide_eq_true_eq,decide_eq_true_eq];exact hi
 generalize decide (x∈LS)=X at *
 generalize (x∈LS)=M at *
 clear h
 obtain ⟨p,s,b,f⟩:=x
 dsimp only [lifeCells] at CI HB0 ⊢
 go_enter Tryz.func113,Tryz.ntmps113
 go_wp2_with (go_at_call 142;refine CI.out.mono ?_;rintro e w2 ⟨⟨i,rfl,hi⟩,hb2⟩;have HB2:=Lib.hid (HB0.out.trans (hb2.mono HB0.out.size));have HI:=Lib.hid (HX.out i hi);clear hi hb2)
 go_ret
 exact ⟨by rw [←HI.out];rfl,HB2.out⟩
end Go.Proofs.By
namespace Go.Proofs.Heap
open Go Go.RowKit
section
variable {P:Program}
theorem run_appW {w:World} (t ty:TypeId) (base:Nat) {e:TypeId} {size bytes:Nat} (E:Elem P t e size bytes) (v:Value) (n:Nat) (xs:List Value) (hown:w.ownsRow base e size v n xs)
  (b m c:Nat) (news:List Value) (hrow:Row w e (.slice (some ⟨b,0,none⟩) m c) m news) (hl:news.length=m*size) (h1:∀ u∈news,u.oneCell'=true) (hm:0<m)
  (hbytes:(n+m)*bytes≤140737488355328) (h63:n+m≤9223372036854775807) (hbase:base≤w.heap.size) :
  ∃ v' w',(Builtin.append_ #[t,t] ty #[v,.slice (some ⟨b,0,none⟩) m c]).run P w = .ok v' w'∧w'.ownsRow base e size v' (n+m) (xs++news)∧w.grownBy w' v.ownBlock ∧
   ∀ i,v'.ownBlock=some i→v.ownBlock=some i∨i=w.heap.size:=by
 obtain ⟨v',w',hr,h2,h3⟩:=run_app (P:=P) t ty base E v n xs hown _ m news hrow hl h1 hbytes h63 hbase
 refine ⟨v',w',hr,h2,h3,?_⟩
 obtain ⟨z,hinfo,hzs⟩:=E.info
 obtain ⟨i,hi,hz,hsize,hby⟩:=info_parts hinfo
 subst hsize
 subst hby
 have hnews:∀ j u,news[j]?=some u→w.cell? ((⟨b,0,none⟩:Addr).add j)=some u:=by
  obtain ⟨ad,cap,hv,_,_,_,hr⟩:=hrow
  injection hv with hv _ _
  subst hv
  intro j u hu
  rcases hr with hr|⟨b',off,c',fr,hab,hb,hc⟩
  ·subst hr;simp at hu
  ·cases hab
   have hj:j<news.length:=(List.getElem?_eq_some_iff.1 hu).1
   have:=hc j hj
   have hadd:(⟨b,0,none⟩:Addr).add j=⟨b,0+j,none⟩:=by unfold Addr.add;split <;> simp_all
   rw [hadd]
   simp only [World.cell?,hb]
   simpa [hu] using this
 have hl2:∀ k,(Value.slice (some ⟨w.heap.size,0,none⟩) (n+m) k).ownBlock=some w.heap.size:=fun _=>rfl
 rcases hown.2 with ⟨rfl,rfl⟩|⟨g,cap,cur,rfl,hbg,hg,hnc,hcm,hcs,htake⟩
 ·rw [Nat.zero_add] at hbytes
  have hr2:=run_append_nil (P:=P) w t ty e i z E.ht hi hz ⟨b,0,none⟩ m c news hl hnews hm (by omega) (by omega)
  rw [hr2] at hr
  injection hr with e1 _
  subst e1
  intro k hk
  exact Or.inr (Option.some.inj hk).symm
 ·by_cases hroom:n+m≤cap
  ·have hfit:n*i.size+news.length≤cur.size:=by rw [hl,hcs,←Nat.add_mul];exact Nat.mul_le_mul_right _ hroom
   have hr2:=run_append_room (P:=P) w t ty e i E.ht hi g n cap cur hg ⟨b,0,none⟩ m c news hl hnews h1 hroom hfit
   rw [hr2] at hr
   injection hr with e1 _
   subst e1
   intro k hk
   exact Or.inl hk
  ·have holds:∀ j u,xs[j]?=some u→w.cell? ((⟨g,0,none⟩:Addr).add j)=some u:=hown.cells (g:=g) rfl
   have hr2:=run_append_grow (P:=P) w t ty e i z E.ht hi hz ⟨g,0,none⟩ n cap xs hown.1 holds ⟨b,0,none⟩ m c news hl hnews (by omega) (by omega) (growslice_fits (by omega) hbytes)
   rw [hr2] at hr
   injection hr with e1 _
   subst e1
   intro k hk
   exact Or.inr (Option.some.inj hk).symm
theorem step_appW {ops:Array Oper} {o:Oper} {a:Act} {w:World} {K:Act→World→Prop} {Q:Exit→Act→World→Prop} {E':Prop} (hgd:o.guard=none) (s x:Operand) (t:TypeId)
  (ho:o.op = .call {callee:= .builtin .append,args:=#[s,x],argTypes:=#[t,t]})
  (base:Nat) {e:TypeId} {size bytes:Nat} (E:Elem P t e size bytes)
  (v:Value) (n:Nat) (xs:List Value) (hs:a.eval s=v) (hown:w.ownsRow base e size v n xs)
  (b m c:Nat) (news:List Value) (hx:a.eval x = .slice (some ⟨b,0,none⟩) m c) (hrow:Row w e (.slice (some ⟨b,0,none⟩) m c) m news) (hl:news.length=m*size) (h1:∀ u∈news,u.oneCell'=true) (hm:0<m)
  (hbytes:(n+m)*bytes≤140737488355328) (h63:n+m≤9223372036854775807) (hbase:base≤w.heap.size)
  (h:∀ v' w',Hid (w'.ownsRow base e size v' (n+m) (xs++news))→Hid (w.grownBy w' v.ownBlock)→Hid (∀ i,v'.ownBlock=some i→v.ownBlock=some i∨i=w.heap.size)→K (a.put o.dst v') w') :
  if Region.wanted o (yielded ops a.tmps)=true then Oper.wp P o a w K Q else E':=by
 have hw:Region.wanted o (yielded ops a.tmps)=true:=by simp [Region.wanted,hgd]
 rw [if_pos hw]
 obtain ⟨v',w',hrun,h2,h3,h4⟩:=run_appW (P:=P) t o.type base E v n xs hown b m c news hrow hl h1 hm hbytes h63 hbase
 unfold Oper.wp
 simp [execOp,ho,resolve,invoke,builtin,hs,hx,hrun,Result.andThen]
 exact h v' w' h2 h3 h4
theorem step_slice1v {ops:Array Oper} {o:Oper} {a:Act} {w:World} {K:Act→World→Prop} {Q:Exit→Act→World→Prop} {E':Prop} (hgd:o.guard=none) {t e:TypeId} {bytes:Nat} (E:Elem P t e 1 bytes) (x:Operand) (ho:o.op = .buildSlice t 1 #[(0,x)])
  (v:Value) (hx:a.eval x=v) (hv:v.cells=#[v])
  (h:K (a.put o.dst (.slice (some ⟨w.heap.size,0,none⟩) 1 1)) (w.alloc (.cells #[v] e))):if Region.wanted o (yielded ops a.tmps)=true then Oper.wp P o a w K Q else E':=by
 exact Yx59
end
end Go.Proofs.Heap
