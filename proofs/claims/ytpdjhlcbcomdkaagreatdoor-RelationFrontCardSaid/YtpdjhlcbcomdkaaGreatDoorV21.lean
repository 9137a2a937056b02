/- Several texts in one: The walks of package relation: view, Lives, Want, Quiet, Cur. What package book says is sent in a life. Plain. The walks of serial.Ahead16 and of a view's goes. The walk of a view's send. -/
import Derived.Test.YtpdjhlcbcomdkaaGreatDoorV01
import Derived.Test.YtpdjhlcbcomdkaaGreatDoorV02
import Derived.Test.YtpdjhlcbcomdkaaGreatDoorV12
import Derived.Test.YtpdjhlcbcomdkaaGreatDoorV19
import Derived.Test.YtpdjhlcbcomdkaaGreatDoorV20
set_option linter.unusedVariables false
set_option linter.unusedSimpArgs false
set_option linter.unusedSimpArgs false
namespace Go.Proofs.By
open Go.RowKit Go.Proofs.Heap Go.Proofs
open Go.Proofs.Rm (below_drewN Turn)
open Go.Proofs.Lab (Tabs)
open Go.Proofs.Mem
theorem endGo_mem (p s at':Int) (ls:List Life):∀ k,∀ z∈endGo p s at' ls k,∃ y∈ls,z=y∨z={y with fin:=at'}
 | 0,z,h=>⟨z,h,Or.inl rfl⟩
 | k+1,z,h=>by
  unfold endGo at h
  split at h
  ·rcases List.mem_or_eq_of_mem_set h with h1|h1
   ·exact ⟨z,h1,Or.inl rfl⟩
   ·by_cases hk:k<ls.length
    ·refine ⟨ls.getD k noLife,?_,Or.inr h1⟩
     rw [List.getD_eq_getElem?_getD,List.getElem?_eq_getElem hk]
     exact List.getElem_mem hk
    ·rw [List.set_eq_of_length_le (by omega)] at h
     exact ⟨z,h,Or.inl rfl⟩
  ·exact endGo_mem p s at' ls k z h
theorem livesOf_ok {n at':Int} (h0:0≤at') (h1:at'<n):∀ (ts:List Turn) (ls:List Life),(∀ z∈ls,0≤z.bgn∧z.bgn<n∧z.fin≤n)→∀ z∈livesOf n at' ls ts,0≤z.bgn∧z.bgn<n∧z.fin≤n
 | [],_,h=>h
 | t :: ts,ls,h=>by
  refine livesOf_ok h0 h1 ts (lifeTurn n at' ls t) fun z hz=>?_
  unfold lifeTurn at hz
  split at hz
  ·rcases List.mem_append.1 hz with h2|h2
   ·exact h z h2
   ·rw [List.mem_singleton] at h2;subst h2;exact ⟨h0,h1,Int.le_refl _⟩
  split at hz
  ·obtain ⟨y,hy,h2|h2⟩:=endGo_mem _ _ _ _ _ z hz
   ·rw [h2];exact h y hy
   ·rw [h2];have:=h y hy;exact ⟨this.1,this.2.1,by show at'≤n;omega⟩
  ·exact h z hz
theorem livesTo_ok (L:List OpB) (n:Nat):∀ k,k≤n→∀ z∈livesTo L n k,0≤z.bgn∧z.bgn<n∧z.fin≤n
 | 0,_=>fun z h=>by cases h
 | k+1,hk=>livesOf_ok (by omega) (by omega) _ _ (livesTo_ok L n k (by omega))
theorem RS.bkf {w w':World} {k g b:Nat} {ov av mv lv:Value} {L:List OpB} {M:List MedV} {R:Rm.Room} {ep:Int} (h:RS w w' k g b ov L L.length L.length av mv lv M R ep) (ho:OpBsR w' ov L):BkF w' k ov av mv lv L (livesTo L L.length L.length):=by
 have h1:=Row.of_owns h.book.adm
 rw [admsTo_len] at h1
 exact ⟨h.book.blk,ho,h1,⟨M,Row.of_owns h.book.med,h.book.each,h.meds⟩,Row.of_owns h.book.liv⟩
theorem RLives_any (v:Value) (L:List OpB) (w:World) (hT:Tabs w) (h:OpBsR w v L) (hL:L.length≤256) :
  Calls Tryz.prog 27 #[v] w fun e w'=>(∃ lv,e = .returned lv∧Row w' 59 lv (livesTo L L.length L.length).length ((livesTo L L.length L.length).flatMap lifeCells))∧Below w.heap.size w w':=by
 have C:=Lib.hid (Read_any v L w hT h hL)
 clear hT h hL
 go_enter Tryz.func27,Tryz.ntmps27
 go_wp2_with (go_at_call 53;refine C.out.mono ?_;rintro e w2 ⟨k,g,b,ov,av,mv,lv,M,R,ep,rfl,-,hrs⟩;have HRS:=Lib.hid hrs;have k3:w2.cell? ⟨k,3,none⟩=some lv:=(by rw [cell_of hrs.book.blk 3];rfl);clear hrs)
 go_ret
 exact ⟨⟨lv,rfl,Row.of_owns HRS.out.book.liv⟩,HRS.out.bel⟩
set_option maxRecDepth 100000 in
set_option maxHeartbeats 4000000 in
theorem Rview_none (v:Value) (L:List OpB) (x:Life) (w:World) (hT:Tabs w) (h:OpBsR w v L) (hL:L.length≤256) (hx:x ∉ livesTo L L.length L.length) :
  Calls Tryz.prog 55 #[v,.agg (lifeCells x).toArray] w fun e w'=>e = .returned (.pointer none)∧Below w.heap.size w w':=by
 have HLK:=Lib.hid (livesTo_ok L L.length L.length (Nat.le_refl _))
 have HX:=Lib.hid hx
 have HZ0:Hid ((w.alloc (.cells (lifeCells x).toArray 59)).heap[w.heap.size]?=some (.cells (lifeCells x).toArray 59 (0,0))):=heap_new w _
 have HB0:Hid (Below w.heap.size w (w.alloc (.cells (lifeCells x).toArray 59))):=below_alloc w _
 have CR0:=Lib.hid (fun (w':World) (hb:Below w.heap.size w w')=>Read_any v L w' (Utf8Tabs_below hT hb) (h.below hb) hL)
 have HL:=Lib.hid hL
 clear hx hT h hL
 obtain ⟨p,sr,b,f⟩:=x
 dsimp only [lifeCells] at HZ0 HB0 ⊢
 go_enter Tryz.func55,Tryz.ntmps55
 go_upto_region 1 with fail
 generalize w.alloc (.cells #[.int .i64 p,.int .i64 sr,.int .i64 b,.int .i64 f] 59)=w1 at *
 have KEEP:Hid (∀ w',Below w1.heap.size w1 w'→w'.rangeAt w.heap.size 0 [.int .i64 p,.int .i64 sr,.int .i64 b,.int .i64 f]∧Below w1.heap.size w1 w'):=fun w' hb=>⟨fun m v hm=>by rw [Nat.zero_add,cell_of ((hb.block _ (hp_lt HZ0.out)).trans HZ0.out) m];simpa using hm,hb⟩
 have CR:=Lib.hid (CR0.out w1.drew (HB0.out.trans ((Below.refl w1.heap.size w1).drew.mono HB0.out.size)))
 clear CR0
 refine wp_region_noPanic ?_
 refine AnyT.region_start (d:=3) (S:=(fun w'=>w'.rangeAt w.heap.size 0 [.int .i64 p,.int .i64 sr,.int .i64 b,.int .i64 f]∧Below w1.heap.size w1 w')) Yo3 ?_ (fun _=>?_)
 ·(try dsimp only)
  exact KEEP.out _ (Below.refl _ _).drew
 refine YP 0 (h:=?_)
 refine AnyT.tk 2 ?_ rfl ?_ <| ?_
 rotate_left
 ·exact Yx118
 try simp only [AnyT.pt]
 refine YR 1 (h:=fun K hK=>?_)
 go_simp
 refine CR.out.mono ?_
 rintro e w2 ⟨k,g,b',ov,av,mv,lv,M,R,ep,rfl,ho,hrs⟩
 have HF:=Lib.hid (hrs.bkf ho)
 have HB2:=Lib.hid ((Below.refl w1.heap.size w1).drew.trans hrs.bel)
 clear ho hrs
 go_wp2_with fail
 refine AnyT.go_on hK _ _ ?_ (fun _=>?_)
 ·(try dsimp only)
  exact KEEP.out _ (by first|with_reducible exact HB2.out|with_reducible exact (Below.refl _ _).drew)
 clear hK K
 try simp only [AnyT.pt]
 refine YR 3 (h:=fun K hK=>?_)
 go_simp
 refine (View_none HF.out _ HX.out).mono ?_
 rintro e w3 ⟨rfl,hb3⟩
 have HB3:=Lib.hid hb3
 clear hb3
 go_wp2_with fail
 refine AnyT.go_past hK _ _ Yo3 ?_
 clear hK K
 try simp only [AnyT.pt]
 refine YP 4 (h:=?_)
 refine AnyT.till_done Yo3 ?_ _
 refine NoPanic.normal ?_
 go_wp2_with fail
 go_ret
 exact ⟨rfl,HB0.out.trans ((HB2.out.trans (HB3.out.mono HB2.out.size)).mono HB0.out.size)⟩
set_option maxRecDepth 100000 in
set_option maxHeartbeats 4000000 in
theorem Rview_some (v:Value) (L:List OpB) (x:Life) (w:World) (hT:Tabs w) (h:OpBsR w v L) (hL:L.length≤256) (hx:x∈livesTo L L.length L.length) :
  Calls Tryz.prog 55 #[v,.agg (lifeCells x).toArray] w fun e w'=>(∃ V k ov av mv lv wv cv qv,e = .returned (.pointer (some ⟨V,0,none⟩))∧VB w' V k ov av mv lv L x wv cv qv∧VRows w' wv cv qv (statesV L x (L.length+1)))∧Below w.heap.size w w':=by
 have HLK:=Lib.hid (livesTo_ok L L.length L.length (Nat.le_refl _))
 have HX:=Lib.hid hx
 have HZ0:Hid ((w.alloc (.cells (lifeCells x).toArray 59)).heap[w.heap.size]?=some (.cells (lifeCells x).toArray 59 (0,0))):=heap_new w _
 have HB0:Hid (Below w.heap.size w (w.alloc (.cells (lifeCells x).toArray 59))):=below_alloc w _
 have CR0:=Lib.hid (fun (w':World) (hb:Below w.heap.size w w')=>Read_any v L w' (Utf8Tabs_below hT hb) (h.below hb) hL)
 have HL:=Lib.hid hL
 clear hx hT h hL
 obtain ⟨p,sr,b,f⟩:=x
 dsimp only [lifeCells] at HZ0 HB0 ⊢
 go_enter Tryz.func55,Tryz.ntmps55
 go_upto_region 1 with fail
 generalize w.alloc (.cells #[.int .i64 p,.int .i64 sr,.int .i64 b,.int .i64 f] 59)=w1 at *
 have KEEP:Hid (∀ w',Below w1.heap.size w1 w'→w'.rangeAt w.heap.size 0 [.int .i64 p,.int .i64 sr,.int .i64 b,.int .i64 f]∧Below w1.heap.size w1 w'):=fun w' hb=>⟨fun m v hm=>by rw [Nat.zero_add,cell_of ((hb.block _ (hp_lt HZ0.out)).trans HZ0.out) m];simpa using hm,hb⟩
 have CR:=Lib.hid (CR0.out w1.drew (HB0.out.trans ((Below.refl w1.heap.size w1).drew.mono HB0.out.size)))
 clear CR0
 refine wp_region_noPanic ?_
 refine AnyT.region_start (d:=3) (S:=(fun w'=>w'.rangeAt w.heap.size 0 [.int .i64 p,.int .i64 sr,.int .i64 b,.int .i64 f]∧Below w1.heap.size w1 w')) Yo3 ?_ (fun _=>?_)
 ·(try dsimp only)
  exact KEEP.out _ (Below.refl _ _).drew
 refine YP 0 (h:=?_)
 refine AnyT.tk 2 ?_ rfl ?_ <| ?_
 rotate_left
 ·exact Yx118
 try simp only [AnyT.pt]
 refine YR 1 (h:=fun K hK=>?_)
 go_simp
 refine CR.out.mono ?_
 rintro e w2 ⟨k,g,b',ov,av,mv,lv,M,R,ep,rfl,ho,hrs⟩
 have HF:=Lib.hid (hrs.bkf ho)
 have HB2:=Lib.hid ((Below.refl w1.heap.size w1).drew.trans hrs.bel)
 clear ho hrs
 go_wp2_with fail
 refine AnyT.go_on hK _ _ ?_ (fun _=>?_)
 ·(try dsimp only)
  exact KEEP.out _ (by first|with_reducible exact HB2.out|with_reducible exact (Below.refl _ _).drew)
 clear hK K
 try simp only [AnyT.pt]
 refine YR 3 (h:=fun K hK=>?_)
 go_simp
 refine (View_some HF.out HL.out _ HX.out (HLK.out _ HX.out).1 (HLK.out _ HX.out).2.1).mono ?_
 rintro e w3 ⟨⟨V,wv,cv,qv,rfl,hvb,hvr⟩,hb3⟩
 have HB3:=Lib.hid hb3
 have HVB:=Lib.hid hvb
 have HVR:=Lib.hid hvr
 clear hb3 hvb hvr
 go_wp2_with fail
 refine AnyT.go_past hK _ _ Yo3 ?_
 clear hK K
 try simp only [AnyT.pt]
 refine YP 4 (h:=?_)
 refine AnyT.till_done Yo3 ?_ _
 refine NoPanic.normal ?_
 go_wp2_with fail
 go_ret
 exact ⟨⟨V,_,_,_,_,_,wv,cv,qv,rfl,HVB.out,HVR.out⟩,HB0.out.trans ((HB2.out.trans (HB3.out.mono HB2.out.size)).mono HB0.out.size)⟩
def curOf (L:List OpB) (x:Life) (at':Int):Int:=if x∈livesTo L L.length L.length then (if there x at' then (stateV L x at'.toNat).cur else -1) else -1
set_option maxHeartbeats 2000000 in
theorem RCur_any (v:Value) (L:List OpB) (x:Life) (at':Int) (w:World) (hT:Tabs w) (h:OpBsR w v L) (hL:L.length≤256) :
  Calls Tryz.prog 35 #[v,.agg (lifeCells x).toArray,.int .i64 at'] w fun e w'=>e = .returned (.int .i64 (curOf L x at'))∧Below w.heap.size w w':=by
 have HZ0:Hid (Below w.heap.size w (w.alloc (.cells (lifeCells x).toArray 59))):=below_alloc w _
 have hz:(w.alloc (.cells (lifeCells x).toArray 59)).heap[w.heap.size]?=some (.cells (lifeCells x).toArray 59 (0,0)):=heap_new w _
 have HX:Hid (curOf L x at'=if x∈livesTo L L.length L.length then (if there x at' then (stateV L x at'.toNat).cur else -1) else -1):=rfl
 generalize curOf L x at'=X at *
 by_cases hx:x∈livesTo L L.length L.length
 ·have hok:=livesTo_ok L L.length L.length (Nat.le_refl _) x hx
  have CV:=Lib.hid (Rview_some v L x (w.alloc (.cells (lifeCells x).toArray 59)) (Utf8Tabs_below hT HZ0.out) (h.below HZ0.out) hL hx)
  have HX1:Hid (X=if there x at' then (stateV L x at'.toNat).cur else -1):=by show _=_;rw [HX.out,if_pos hx]
  have H0:=Lib.hid hok.1
  have H1:=Lib.hid hok.2.2
  clear hx hok HX hT h hL
  obtain ⟨p,sr,b,f⟩:=x
  dsimp only [lifeCells] at CV HZ0 hz ⊢
  go_enter Tryz.func35,Tryz.ntmps35
  go_wp2_with (first|(with_reducible refine load_at 59 (.tmp 4) rfl ?_;refine load_rowTo2 rfl 59 (.tmp 4) rfl w.heap.size rfl 59 #[.int .i64 p,.int .i64 sr,.int .i64 b,.int .i64 f] (0,0) _ hz Tryz.underlying59 rfl Yo3 ?_)|(go_at_call 55;refine CV.out.mono ?_;rintro e w2 ⟨⟨V,k,ov,av,mv,lv,wv,cv,qv,rfl,hvb,hvr⟩,hb2⟩;have HB2:=Lib.hid (HZ0.out.trans (hb2.mono HZ0.out.size));have CW:=Lib.hid (Vcur_any V k L _ wv cv qv w2 hvb.view hvr H0.out H1.out at');rw [←HX1.out] at CW;clear hvb hvr hb2)|(go_at_call 65;refine CW.out.mono ?_;rintro e w' ⟨rfl,rfl⟩))
  go_ret
  exact ⟨rfl,HB2.out⟩
 ·have CV:=Lib.hid (Rview_none v L x (w.alloc (.cells (lifeCells x).toArray 59)) (Utf8Tabs_below hT HZ0.out) (h.below HZ0.out) hL hx)
  have HX1:Hid (X = -1):=by show _=_;rw [HX.out,if_neg hx]
  clear hx HX hT h hL
  obtain ⟨p,sr,b,f⟩:=x
  dsimp only [lifeCells] at CV HZ0 hz ⊢
  go_enter Tryz.func35,Tryz.ntmps35
  go_wp2_with (first|(with_reducible refine load_at 59 (.tmp 4) rfl ?_;refine load_rowTo2 rfl 59 (.tmp 4) rfl w.heap.size rfl 59 #[.int .i64 p,.int .i64 sr,.int .i64 b,.int .i64 f] (0,0) _ hz Tryz.underlying59 rfl Yo3 ?_)|(go_at_call 55;refine CV.out.mono ?_;rintro e w2 ⟨rfl,hb2⟩;have HB2:=Lib.hid (HZ0.out.trans (hb2.mono HZ0.out.size));have CW:=Lib.hid (Vcur_nil w2 at');clear hb2)|(go_at_call 65;refine CW.out.mono ?_;rintro e w' ⟨rfl,rfl⟩))
  go_ret
  exact ⟨by rw [HX1.out];rfl,HB2.out⟩
def quietOf (L:List OpB) (x:Life) (at':Int):Bool:=if x∈livesTo L L.length L.length then (if there x at' then (stateV L x at'.toNat).quiet else true) else true
set_option maxHeartbeats 2000000 in
theorem RQuiet_any (v:Value) (L:List OpB) (x:Life) (at':Int) (w:World) (hT:Tabs w) (h:OpBsR w v L) (hL:L.length≤256) :
  Calls Tryz.prog 33 #[v,.agg (lifeCells x).toArray,.int .i64 at'] w fun e w'=>e = .returned (.bool (quietOf L x at'))∧Below w.heap.size w w':=by
 have HZ0:Hid (Below w.heap.size w (w.alloc (.cells (lifeCells x).toArray 59))):=below_alloc w _
 have hz:(w.alloc (.cells (lifeCells x).toArray 59)).heap[w.heap.size]?=some (.cells (lifeCells x).toArray 59 (0,0)):=heap_new w _
 have HX:Hid (quietOf L x at'=if x∈livesTo L L.length L.length then (if there x at' then (stateV L x at'.toNat).quiet else true) else true):=rfl
 generalize quietOf L x at'=X at *
 by_cases hx:x∈livesTo L L.length L.length
 ·have hok:=livesTo_ok L L.length L.length (Nat.le_refl _) x hx
  have CV:=Lib.hid (Rview_some v L x (w.alloc (.cells (lifeCells x).toArray 59)) (Utf8Tabs_below hT HZ0.out) (h.below HZ0.out) hL hx)
  have HX1:Hid (X=if there x at' then (stateV L x at'.toNat).quiet else true):=by show _=_;rw [HX.out,if_pos hx]
  have H0:=Lib.hid hok.1
  have H1:=Lib.hid hok.2.2
  clear hx hok HX hT h hL
  obtain ⟨p,sr,b,f⟩:=x
  dsimp only [lifeCells] at CV HZ0 hz ⊢
  go_enter Tryz.func33,Tryz.ntmps33
  go_wp2_with (first|(with_reducible refine load_at 59 (.tmp 4) rfl ?_;refine load_rowTo2 rfl 59 (.tmp 4) rfl w.heap.size rfl 59 #[.int .i64 p,.int .i64 sr,.int .i64 b,.int .i64 f] (0,0) _ hz Tryz.underlying59 rfl Yo3 ?_)|(go_at_call 55;refine CV.out.mono ?_;rintro e w2 ⟨⟨V,k,ov,av,mv,lv,wv,cv,qv,rfl,hvb,hvr⟩,hb2⟩;have HB2:=Lib.hid (HZ0.out.trans (hb2.mono HZ0.out.size));have CW:=Lib.hid (Vquiet_any V k L _ wv cv qv w2 hvb.view hvr H0.out H1.out at');rw [←HX1.out] at CW;clear hvb hvr hb2)|(go_at_call 64;refine CW.out.mono ?_;rintro e w' ⟨rfl,rfl⟩))
  go_ret
  exact ⟨rfl,HB2.out⟩
 ·have CV:=Lib.hid (Rview_none v L x (w.alloc (.cells (lifeCells x).toArray 59)) (Utf8Tabs_below hT HZ0.out) (h.below HZ0.out) hL hx)
  have HX1:Hid (X=true):=by show _=_;rw [HX.out,if_neg hx]
  clear hx HX hT h hL
  obtain ⟨p,sr,b,f⟩:=x
  dsimp only [lifeCells] at CV HZ0 hz ⊢
  go_enter Tryz.func33,Tryz.ntmps33
  go_wp2_with (first|(with_reducible refine load_at 59 (.tmp 4) rfl ?_;refine load_rowTo2 rfl 59 (.tmp 4) rfl w.heap.size rfl 59 #[.int .i64 p,.int .i64 sr,.int .i64 b,.int .i64 f] (0,0) _ hz Tryz.underlying59 rfl Yo3 ?_)|(go_at_call 55;refine CV.out.mono ?_;rintro e w2 ⟨rfl,hb2⟩;have HB2:=Lib.hid (HZ0.out.trans (hb2.mono HZ0.out.size));have CW:=Lib.hid (Vquiet_nil w2 at');clear hb2)|(go_at_call 64;refine CW.out.mono ?_;rintro e w' ⟨rfl,rfl⟩))
  go_ret
  exact ⟨by rw [HX1.out];rfl,HB2.out⟩
end Go.Proofs.By
namespace Go.Proofs.By
structure Emi where
 event:Int
 seq:Int
 time:Int
 ssrc:Int
 frame:Int
 sw:Bool
deriving DecidableEq
def noEmi:Emi:=⟨0,0,0,0,0,false⟩
structure Snd where
 out:List Emi
 opn:Int
 begin:Int
 starts:Int
def lastE (l:List Emi):Emi:=l.getD (l.length-1) noEmi
def diff16 (a b:Int):Int:=IntKind.i16.wrap (IntKind.u16.wrap (a-b))
def goesV (L:List OpB) (s:VS) (out:List Emi) (k:Nat):Bool:=
 decide ((takenAt L k).dsc.layer=s.cur) && !decide (out.length=0) && decide (0<diff16 (takenAt L k).pkt.seq (takenAt L (lastE out).event.toNat).pkt.seq)
def emiV (L:List OpB) (x:Life) (z:Snd) (k:Nat) (op:Bool):Emi:=
 ⟨k,IntKind.u16.wrap z.out.length,IntKind.u32.wrap (IntKind.u32.wrap ((takenAt L k).pkt.time-(takenAt L z.opn.toNat).pkt.time)+z.begin),outOf x.peer x.source,IntKind.u16.wrap (z.starts-1),op⟩
def readyV (z:Snd) (k:Nat) (op st:Bool):Snd:=
 ⟨z.out,if op then k else z.opn,if op then (if 0<z.out.length then IntKind.u32.wrap ((lastE z.out).time+3000) else z.begin) else z.begin,if st then IntKind.u16.wrap (z.starts+1) else z.starts⟩
def sendV (L:List OpB) (x:Life) (s:VS) (z:Snd) (k:Nat):Snd:=
 let r:=readyV z k (opensV s (takenAt L k).dsc) (takenAt L k).dsc.start
 {r with out:=r.out++[emiV L x r k (opensV s (takenAt L k).dsc)]}
def sentStep (L:List OpB) (x:Life) (s:VS) (z:Snd) (k:Nat):Snd:=
 if packetAt L x k && !s.quiet && (opensV s (takenAt L k).dsc || goesV L s z.out k) then sendV L x s z k else z
def sentTo (L:List OpB) (x:Life):Nat→Snd
 | 0=>⟨[],0,0,0⟩
 | k+1=>sentStep L x (stateV L x k) (sentTo L x k) k
structure SndOk (k:Nat) (z:Snd):Prop where
 len:z.out.length≤k
 ev:∀ e∈z.out,0≤e.event∧e.event<k
 opn:0≤z.opn∧(z.opn<k∨z.opn=0)
 bg:0≤z.begin∧z.begin<4294967296
 st:0≤z.starts∧z.starts<65536
theorem ready_ok {z:Snd} {k:Nat} (h:SndOk k z) (op st:Bool):(0≤(readyV z k op st).opn∧(readyV z k op st).opn<((k+1:Nat):Int))∧(0≤(readyV z k op st).begin∧(readyV z k op st).begin<4294967296)∧(0≤(readyV z k op st).starts∧(readyV z k op st).starts<65536):=by
 have h1:=h.opn
 have h2:=h.bg
 have h3:=h.st
 have w1:0≤IntKind.u32.wrap ((lastE z.out).time+3000)∧IntKind.u32.wrap ((lastE z.out).time+3000)<4294967296:=by rw [IntKind.wrap_u32];omega
 have w2:0≤IntKind.u16.wrap (z.starts+1)∧IntKind.u16.wrap (z.starts+1)<65536:=by rw [IntKind.wrap_u16];omega
 unfold readyV
 dsimp only
 refine ⟨?_,?_,?_⟩
 ·cases op
  ·show 0≤z.opn∧z.opn<_;omega
  ·show 0≤(k:Int)∧(k:Int)<_;omega
 ·cases op
  ·exact h2
  ·by_cases hl:0<z.out.length
   ·rw [if_pos rfl,if_pos hl];exact w1
   ·rw [if_pos rfl,if_neg hl];exact h2
 ·cases st
  ·exact h3
  ·exact w2
theorem SndOk.step {L:List OpB} {x:Life} {s:VS} {z:Snd} {k:Nat} (h:SndOk k z):SndOk (k+1) (sentStep L x s z k):=by
 have hw:SndOk (k+1) z:=⟨by have:=h.len;omega,fun e he=>by have:=h.ev e he;omega,by have:=h.opn;omega,h.bg,h.st⟩
 unfold sentStep
 split
 ·obtain ⟨r1,r2,r3⟩:=ready_ok h (opensV s (takenAt L k).dsc) (takenAt L k).dsc.start
  unfold sendV
  dsimp only
  refine ⟨?_,?_,⟨r1.1,Or.inl r1.2⟩,r2,r3⟩
  ·show (z.out++[_]).length≤k+1
   rw [List.length_append];have:=h.len;simp only [List.length_cons,List.length_nil];omega
  ·intro e he
   rcases List.mem_append.1 he with h1|h1
   ·exact hw.ev e h1
   ·rw [List.mem_singleton] at h1;subst h1;show 0≤(k:Int)∧(k:Int)<((k+1:Nat):Int);omega
 ·exact hw
theorem sentTo_ok (L:List OpB) (x:Life):∀ k,SndOk k (sentTo L x k)
 | 0=>⟨Nat.le_refl _,(fun e h=>by cases h),⟨Int.le_refl _,Or.inr rfl⟩,⟨Int.le_refl _,(by decide:(0:Int)<4294967296)⟩,⟨Int.le_refl _,(by decide:(0:Int)<65536)⟩⟩
 | k+1=>(sentTo_ok L x k).step
end Go.Proofs.By
set_option linter.unusedSimpArgs false
namespace Go.Proofs.By
open Go.RowKit Go.Proofs.Heap Go.Proofs
open Go.Proofs.Rm (below_drewN own_le)
def emiCells (e:Emi):List Value:=[.int .i64 e.event,.int .u16 e.seq,.int .u32 e.time,.int .u32 e.ssrc,.int .u16 e.frame,.bool e.sw]
theorem elemEmi:Elem Tryz.prog 61 70 6 32:=⟨Tryz.underlying61,⟨.agg #[.int .i64 0,.int .u16 0,.int .u32 0,.int .u32 0,.int .u16 0,.bool false],by kernel_rfl,rfl⟩,by decide⟩
theorem wrap_i16b (n:Int) : -32768≤IntKind.i16.wrap n∧IntKind.i16.wrap n<32768:=by
 simp only [IntKind.wrap,IntKind.bits,IntKind.signed]
 simp
 split <;> omega
theorem Diff_any (a b:Int) (w:World):Calls Tryz.prog 67 #[.int .u16 a,.int .u16 b] w fun e w'=>e = .returned (.int .i64 (diff16 a b))∧w=w':=by
 have HX:Hid (diff16 a b=IntKind.i16.wrap (IntKind.u16.wrap (a-b))):=rfl
 have h1:=wrap_i16b (IntKind.u16.wrap (a-b))
 have hw:IntKind.i64.wrap (IntKind.i16.wrap (IntKind.u16.wrap (a-b)))=IntKind.i16.wrap (IntKind.u16.wrap (a-b)):=IntWalk.i64_in _ (by omega)
 generalize diff16 a b=X at *
 clear h1
 go_enter Tryz.func67,Tryz.ntmps67
 go_wp2
 go_ret
 exact ⟨by rw [HX.out];rfl,rfl⟩
theorem Ahead_any (a b:Int) (w:World):Calls Tryz.prog 38 #[.int .u16 a,.int .u16 b] w fun e w'=>e = .returned (.bool (decide (0<diff16 a b)))∧w=w':=by
 have CD:=Lib.hid (Diff_any a b w)
 generalize diff16 a b=d at *
 go_enter Tryz.func38,Tryz.ntmps38
 go_wp2_with (go_at_call 67;refine CD.out.mono ?_;rintro e w' ⟨rfl,rfl⟩)
 go_ret
 exact ⟨rfl,rfl⟩
section
variable {w:World} {V k:Nat} {ov av mv lv:Value} {L:List OpB} {x:Life} {wv cv qv:Value}
theorem emi_at {a:Option Addr} {n c:Nat} {l:List Emi} (h:Row w 70 (.slice a n c) n (l.flatMap emiCells)) {m:Nat} (hm:m<l.length):∃ g o,a=some ⟨g,o,none⟩∧w.cell? ⟨g,o+m*6,none⟩=some (.int .i64 (l.getD m noEmi).event)∧w.cell? ⟨g,o+m*6+2,none⟩=some (.int .u32 (l.getD m noEmi).time):=by
 obtain ⟨g,o,e,h2⟩:=row_atB emiCells 6 (fun _=>rfl) h (by omega)
 have hz:l[m]?=some (l.getD m noEmi):=by rw [List.getD_eq_getElem?_getD,List.getElem?_eq_getElem hm];rfl
 exact ⟨g,o,e,h2 m _ hz 0 (by omega),h2 m _ hz 2 (by omega)⟩
set_option maxRecDepth 100000 in
set_option maxHeartbeats 4000000 in
theorem Vgoes_any (h:VB w V k ov av mv lv L x wv cv qv) {j:Nat} (hj:j<L.length) {s:VS} (hs:VAt w wv cv qv j s) (ea:Option Addr) (ec:Nat) (l:List Emi) (z1 z2 z3:Int) (hr:Row w 70 (.slice ea l.length ec) l.length (l.flatMap emiCells)) (he:∀ e∈l,0≤e.event∧e.event<L.length) (hl:l.length≤1000) :
  Calls Tryz.prog 90 #[.pointer (some ⟨V,0,none⟩),.agg #[.slice ea l.length ec,.int .i64 z1,.int .u32 z2,.int .u16 z3],.int .i64 (j:Int)] w fun e w'=>e = .returned (.bool (goesV L s l j))∧Below w.heap.size w w':=by
 obtain ⟨g,o,c,a1,n1,c1,a2,n2,c2,a3,n3,c3,hmv,hm⟩:=med_at h hj
 subst hmv
 obtain ⟨g2,o2,m2,d2,hcv,l2,e2⟩:=hs.cur
 subst hcv
 have hVl:=hp_lt h.view
 have hkl:=hp_lt h.book
 have v0:w.cell? ⟨V,0,none⟩=some (.pointer (some ⟨k,0,none⟩)):=by rw [cell_of h.view 0];rfl
 have v6:w.cell? ⟨V,6,none⟩=some (.slice (some ⟨g2,o2,none⟩) m2 d2):=by rw [cell_of h.view 6];rfl
 have b2:w.cell? ⟨k,2,none⟩=some (.slice (some ⟨g,o,none⟩) L.length c):=by rw [cell_of h.book 2];rfl
 have HX:Hid (goesV L s l j=(decide ((takenAt L j).dsc.layer=s.cur) && !decide (l.length=0) && decide (0<diff16 (takenAt L j).pkt.seq (takenAt L (lastE l).event.toNat).pkt.seq))):=rfl
 have hjI:(j:Int)<(L.length:Int):=Int.ofNat_lt.2 hj
 have i2:(j:Int)<(m2:Int):=Int.ofNat_lt.2 l2
 have HMED:=Lib.hid (fun (q:Nat) (hq:q<L.length)=>med_at h hq)
 have HKB:Hid (∀ w',Below w.heap.size w w'→w'.cell? ⟨V,0,none⟩=some (.pointer (some ⟨k,0,none⟩))∧w'.cell? ⟨k,2,none⟩=some (.slice (some ⟨g,o,none⟩) L.length c)):=fun w' hb=>⟨cell_old v0 hb,cell_old b2 hb⟩
 clear h hs
 generalize goesV L s l j=X at *
 generalize s.cur=cu at *
 have HB0:Hid (Below w.heap.size w (w.alloc (.cells #[.slice ea l.length ec,.int .i64 z1,.int .u32 z2,.int .u16 z3] 162))):=below_alloc w _
 have hz0:(w.alloc (.cells #[.slice ea l.length ec,.int .i64 z1,.int .u32 z2,.int .u16 z3] 162)).heap[w.heap.size]?=some (.cells #[.slice ea l.length ec,.int .i64 z1,.int .u32 z2,.int .u16 z3] 162 (0,0)):=heap_new w _
 have hm2:(w.alloc (.cells #[.slice ea l.length ec,.int .i64 z1,.int .u32 z2,.int .u16 z3] 162)).rangeAt g (o+j*15) [.bool (takenAt L j).pkt.marker,.int .i64 (takenAt L j).pkt.type,.int .u16 (takenAt L j).pkt.seq,.int .u32 (takenAt L j).pkt.time,.int .u32 (takenAt L j).pkt.ssrc,.slice a1 n1 c1,.bool (takenAt L j).pkt.hasExt,.int .u16 (takenAt L j).pkt.profile,.slice a2 n2 c2,.slice a3 n3 c3,.int .i64 (takenAt L j).pkt.pad,.int .i64 (takenAt L j).dsc.layer,.bool (takenAt L j).dsc.key,.bool (takenAt L j).dsc.start,.int .u16 (takenAt L j).dsc.frame]:=fun m v hv=>cell_old (hm m v hv) HB0.out
 have hz:((w.alloc (.cells #[.slice ea l.length ec,.int .i64 z1,.int .u32 z2,.int .u16 z3] 162)).alloc (.cells Yz4a 97)).heap[w.heap.size+1]?=some (.cells Yz4a 97 (0,0)):=by
  have h:=heap_new (w.alloc (.cells #[.slice ea l.length ec,.int .i64 z1,.int .u32 z2,.int .u16 z3] 162)) (.cells Yz4a 97)
  rw [size_alloc] at h
  exact h
 generalize (takenAt L j).pkt=P at *
 generalize (takenAt L j).dsc=D at *
 have HB3:Hid (Below w.heap.size w (((w.alloc (.cells #[.slice ea l.length ec,.int .i64 z1,.int .u32 z2,.int .u16 z3] 162)).alloc (.cells Yz4a 97)).setRow (w.heap.size+1) #[.bool P.marker,.int .i64 P.type,.int .u16 P.seq,.int .u32 P.time,.int .u32 P.ssrc,.slice a1 n1 c1,.bool P.hasExt,.int .u16 P.profile,.slice a2 n2 c2,.slice a3 n3 c3,.int .i64 P.pad,.int .i64 D.layer,.bool D.key,.bool D.start,.int .u16 D.frame])):=below_setRow (bel_alloc HB0.out (Nat.le_refl _) _) (Nat.le_succ _) _
 have hx3:=setRow_heap _ _ _ #[.bool P.marker,.int .i64 P.type,.int .u16 P.seq,.int .u32 P.time,.int .u32 P.ssrc,.slice a1 n1 c1,.bool P.hasExt,.int .u16 P.profile,.slice a2 n2 c2,.slice a3 n3 c3,.int .i64 P.pad,.int .i64 D.layer,.bool D.key,.bool D.start,.int .u16 D.frame] _ _ hz
 have HZ3:Hid ((((w.alloc (.cells #[.slice ea l.length ec,.int .i64 z1,.int .u32 z2,.int .u16 z3] 162)).alloc (.cells Yz4a 97)).setRow (w.heap.size+1) #[.bool P.marker,.int .i64 P.type,.int .u16 P.seq,.int .u32 P.time,.int .u32 P.ssrc,.slice a1 n1 c1,.bool P.hasExt,.int .u16 P.profile,.slice a2 n2 c2,.slice a3 n3 c3,.int .i64 P.pad,.int .i64 D.layer,.bool D.key,.bool D.start,.int .u16 D.frame]).heap[w.heap.size]?=some (.cells #[.slice ea l.length ec,.int .i64 z1,.int .u32 z2,.int .u16 z3] 162 (0,0))):=by
  show _=_
  rw [setRow_other _ _ _ _ (by omega),(below_alloc (w.alloc (.cells #[.slice ea l.length ec,.int .i64 z1,.int .u32 z2,.int .u16 z3] 162)) _).block _ (hp_lt hz0)]
  exact hz0
 clear hm hz0 HB0
 go_enter Tryz.func90,Tryz.ntmps90
 go_upto_region 2 with (first|(with_reducible refine load_at 97 (.tmp 17) rfl ?_;refine wpList_load_mid rfl 97 (.tmp 17) rfl g (o+j*15) rfl [.bool P.marker,.int .i64 P.type,.int .u16 P.seq,.int .u32 P.time,.int .u32 P.ssrc,.slice a1 n1 c1,.bool P.hasExt,.int .u16 P.profile,.slice a2 n2 c2,.slice a3 n3 c3,.int .i64 P.pad,.int .i64 D.layer,.bool D.key,.bool D.start,.int .u16 D.frame] _ hm2 Tryz.underlying97 rfl Yo3 ?_)|(with_reducible refine store_at 97 (.tmp 7) (.tmp 18) rfl ?_;refine store_rowTo2 rfl 97 (.tmp 7) (.tmp 18) rfl rfl (w.heap.size+1) #[.bool P.marker,.int .i64 P.type,.int .u16 P.seq,.int .u32 P.time,.int .u32 P.ssrc,.slice a1 n1 c1,.bool P.hasExt,.int .u16 P.profile,.slice a2 n2 c2,.slice a3 n3 c3,.int .i64 P.pad,.int .i64 D.layer,.bool D.key,.bool D.start,.int .u16 D.frame] rfl rfl 97 Yz4a hz Yo3 Yo3 Yo3 ?_))
 clear hz hm2 v0 b2
 have KC:Hid (∀ (g o:Nat) (u:Value),w.cell? ⟨g,o,none⟩=some u→(((w.alloc (.cells #[.slice ea l.length ec,.int .i64 z1,.int .u32 z2,.int .u16 z3] 162)).alloc (.cells Yz4a 97)).setRow (w.heap.size+1) #[.bool P.marker,.int .i64 P.type,.int .u16 P.seq,.int .u32 P.time,.int .u32 P.ssrc,.slice a1 n1 c1,.bool P.hasExt,.int .u16 P.profile,.slice a2 n2 c2,.slice a3 n3 c3,.int .i64 P.pad,.int .i64 D.layer,.bool D.key,.bool D.start,.int .u16 D.frame]).cell? ⟨g,o,none⟩=some u):=fun g o u hc=>cell_old hc HB3.out
 replace v6:=KC.out _ _ _ v6
 replace e2:=KC.out _ _ _ e2
 have KB:Hid (∀ w',Below w.heap.size w w'→w'.cell? ⟨V,0,none⟩=some (.pointer (some ⟨k,0,none⟩))∧w'.cell? ⟨k,2,none⟩=some (.slice (some ⟨g,o,none⟩) L.length c)):=HKB.out
 generalize (((w.alloc (.cells #[.slice ea l.length ec,.int .i64 z1,.int .u32 z2,.int .u16 z3] 162)).alloc (.cells Yz4a 97)).setRow (w.heap.size+1) #[.bool P.marker,.int .i64 P.type,.int .u16 P.seq,.int .u32 P.time,.int .u32 P.ssrc,.slice a1 n1 c1,.bool P.hasExt,.int .u16 P.profile,.slice a2 n2 c2,.slice a3 n3 c3,.int .i64 P.pad,.int .i64 D.layer,.bool D.key,.bool D.start,.int .u16 D.frame])=w3 at *
 have y11:w3.cell? ⟨w.heap.size+1,11,none⟩=some (.int .i64 D.layer):=by rw [cell_of hx3 11];rfl
 have y2:w3.cell? ⟨w.heap.size+1,2,none⟩=some (.int .u16 P.seq):=by rw [cell_of hx3 2];rfl
 have k0:w3.cell? ⟨w.heap.size,0,none⟩=some (.slice ea l.length ec):=by rw [cell_of HZ3.out 0];rfl
 have HK:=Lib.hid (KB.out _ HB3.out)
 clear hx3 HZ3 KB HKB
 by_cases h1:D.layer=cu
 rotate_left
 ·have f1:(D.layer != cu)=true:=by rw [bne_iff_ne];exact h1
  go_quiet (fail)
  have HB4:=Lib.hid (below_drewN HB3.out nq)
  go_wp2_with fail
  go_ret
  exact ⟨by rw [HX.out,decide_eq_false h1];rfl,HB4.out⟩
 have f1:(D.layer != cu)=false:=by rw [bne_eq_false_iff_eq];exact h1
 have H1:=Lib.hid h1
 clear h1
 by_cases h2:l.length=0
 ·have f2:((l.length:Int) == 0)=true:=by rw [beq_iff_eq];omega
  have H2:=Lib.hid h2
  clear h2
  go_quiet (fail)
  have HB4:=Lib.hid (below_drewN HB3.out nq)
  go_wp2_with fail
  go_ret
  exact ⟨by rw [HX.out,decide_eq_true H2.out];simp,HB4.out⟩
 have f2:((l.length:Int) == 0)=false:=by rw [beq_eq_false_iff_ne];omega
 obtain ⟨m,hm⟩:∃ m,l.length=m+1:=⟨l.length-1,by omega⟩
 obtain ⟨ge,oe,hea,x0,-⟩:=emi_at (m:=m) hr (by omega)
 subst hea
 have hmem:l.getD m noEmi∈l:=by
  rw [List.getD_eq_getElem?_getD,List.getElem?_eq_getElem (by omega:m<l.length)]
  exact List.getElem_mem _
 have hev:=he _ hmem
 have hla:lastE l=l.getD m noEmi:=by unfold lastE;rw [hm];rfl
 rw [hla] at HX
 generalize l.getD m noEmi=E at *
 obtain ⟨q,hq⟩:∃ q:Nat,E.event=(q:Int):=⟨E.event.toNat,by omega⟩
 rw [hq] at x0 HX hev
 have hqL:q<L.length:=by omega
 have HX2:Hid (X=decide (0<diff16 P.seq (takenAt L q).pkt.seq)):=by
  show _=_
  rw [HX.out,decide_eq_true H1.out,decide_eq_false h2]
  rfl
 obtain ⟨g',o',c',b1,r1,s1,b2',r2,s2,b3,r3,s3,hgo,hmq⟩:=HMED.out q hqL
 cases hgo
 have x2:=KC.out _ _ _ (range_at hmq 2 rfl)
 replace x0:=KC.out _ _ _ x0
 have hqI:(q:Int)<(L.length:Int):=Int.ofNat_lt.2 hqL
 have CA:=Lib.hid (fun (w':World)=>Ahead_any P.seq (takenAt L q).pkt.seq w')
 generalize diff16 P.seq (takenAt L q).pkt.seq=df at *
 have hw1:IntKind.i64.wrap ((l.length:Int)-1)=(m:Int):=by rw [IntWalk.i64_in _ (by omega)];omega
 have hmI:(m:Int)<(l.length:Int):=by omega
 have hmN:m<l.length:=by omega
 have HM:=Lib.hid hm
 clear HX H1 h2 hr he hmem hev hla hq HMED hmq KC hm
 go_quiet (fail)
 have HB4:=Lib.hid (below_drewN HB3.out nq)
 have HK4:Hid ((w3.drewN nq).cell? ⟨V,0,none⟩=some (.pointer (some ⟨k,0,none⟩))∧(w3.drewN nq).cell? ⟨k,2,none⟩=some (.slice (some ⟨g,o,none⟩) L.length c)):=HK.out
 have x0':(w3.drewN nq).cell? ⟨ge,oe+m*6,none⟩=some (.int .i64 (q:Int)):=x0
 have x2':(w3.drewN nq).cell? ⟨g,o+q*15+2,none⟩=some (.int .u16 (takenAt L q).pkt.seq):=x2
 have y2':(w3.drewN nq).cell? ⟨w.heap.size+1,2,none⟩=some (.int .u16 P.seq):=y2
 have k0':(w3.drewN nq).cell? ⟨w.heap.size,0,none⟩=some (.slice (some ⟨ge,oe,none⟩) l.length ec):=k0
 clear x0 x2 y2 k0 y11 v6 e2 HK HB3
 generalize w3.drewN nq=w4 at *
 obtain ⟨v0,b2⟩:=HK4.out
 go_upto_region 5 with fail
 go_quiet ((go_at_call 38;exact Calls.quiet_of_same ((CA.out _).mono fun e w' ⟨a,b⟩=>⟨a,b.symm⟩)))
 have HB5:=Lib.hid (below_drewN HB4.out nq)
 go_wp2_with fail
 go_ret
 exact ⟨by rw [HX2.out];rfl,HB5.out⟩
end
end Go.Proofs.By
set_option linter.unusedSimpArgs false
namespace Go.Proofs.By
open Go.RowKit Go.Proofs.Heap Go.Proofs
open Go.Proofs.Rm (below_drewN own_le)
structure SO (w w':World) (K:Nat) (z:Snd) (o0 ov:Value):Prop where
 bel:Below w.heap.size w w'
 blk:w'.heap[K]?=some (.cells #[o0,.int .i64 z.opn,.int .u32 z.begin,.int .u16 z.starts] 162 (0,0))
 own:w'.ownsRow w.heap.size 70 6 ov z.out.length (z.out.flatMap emiCells)
 ge:w.heap.size≤K
section
variable {w w1 w2:World} {K:Nat} {z:Snd} {o0 ov:Value}
theorem SO.below (h:SO w w1 K z o0 ov) (hb:Below w1.heap.size w1 w2):SO w w2 K z o0 ov:=⟨h.bel.trans (hb.mono h.bel.size),(hb.block _ (hp_lt h.blk)).trans h.blk,owns_bel h.own hb,h.ge⟩
theorem SO.facts (h:SO w w1 K z o0 ov):w1.cell? ⟨K,0,none⟩=some o0∧w1.cell? ⟨K,1,none⟩=some (.int .i64 z.opn)∧w1.cell? ⟨K,2,none⟩=some (.int .u32 z.begin)∧w1.cell? ⟨K,3,none⟩=some (.int .u16 z.starts):=
 ⟨by rw [cell_of h.blk 0];rfl,by rw [cell_of h.blk 1];rfl,by rw [cell_of h.blk 2];rfl,by rw [cell_of h.blk 3];rfl⟩
theorem SO.set (h:SO w w1 K z o0 ov) (o:Nat) (u:Value) (z':Snd) (o0':Value) (hz:z'.out=z.out) (hs:[o0,.int .i64 z.opn,.int .u32 z.begin,.int .u16 z.starts].set o u=[o0',.int .i64 z'.opn,.int .u32 z'.begin,.int .u16 z'.starts]):SO w (w1.setCell ⟨K,o,none⟩ u) K z' o0' ov:=by
 have h2:=hp_set h.blk o u
 rw [List.setIfInBounds_toArray,hs] at h2
 refine ⟨((Fr.of_below NoB h.bel).setCell (p:=⟨K,o,none⟩) (Or.inl h.ge) _).below,h2,?_,h.ge⟩
 rw [hz]
 refine owns_block h.own (fun i hi=>RowKit.Below.heap_setCell w1 ⟨K,o,none⟩ u i (fun e=>?_))
 have e:i=K:=e
 subst e
 exact owns_typ h.own (by decide) _ _ _ hi h.blk
theorem SO.grow (h:SO w w1 K z o0 ov) (hg:w1.grownBy w2 ov.ownBlock) {ov':Value} {l:List Emi} (ho:w2.ownsRow w.heap.size 70 6 ov' l.length (l.flatMap emiCells)):SO w w2 K {z with out:=l} o0 ov':=
 ⟨((Fr.of_below NoB h.bel).grown hg h.bel.size (own_le h.own)).below,(hg.block _ (hp_lt h.blk) (fun e=>owns_typ h.own (by decide) _ _ _ e.symm h.blk)).trans h.blk,ho,h.ge⟩
end
theorem emi_one (e:Emi):∀ u∈emiCells e,u.oneCell'=true:=by
 intro u hu
 simp only [emiCells,List.mem_cons,List.mem_nil_iff,or_false] at hu
 rcases hu with rfl|rfl|rfl|rfl|rfl|rfl <;> rfl
section
variable {w:World} {V k:Nat} {ov av mv lv:Value} {L:List OpB} {x:Life} {wv cv qv:Value}
set_option maxRecDepth 100000 in
set_option maxHeartbeats 8000000 in
theorem Vsend_any (h:VB w V k ov av mv lv L x wv cv qv) {j:Nat} (hj:j<L.length) (hL:L.length≤256) {s:VS} (hs:VAt w wv cv qv j s) (K:Nat) (z:Snd) (uv:Value) (w1:World) (hso:SO w w1 K z uv uv) (hok:SndOk j z) :
  Calls Tryz.prog 91 #[.pointer (some ⟨V,0,none⟩),.pointer (some ⟨K,0,none⟩),.int .i64 (j:Int)] w1 fun e w2=>e = .returned (.tuple #[])∧∃ uv',SO w w2 K (sendV L x s z j) uv' uv':=by
 obtain ⟨g,o,c,a1,n1,c1,a2,n2,c2,a3,n3,c3,hmv,hm⟩:=med_at h hj
 subst hmv
 have CN0:=Lib.hid (fun (w':World) (hb:Below w.heap.size w w')=>Vopens_any (h.below hb) hj (hs.below hb))
 have HV:=Lib.hid h.view
 have HBK:=Lib.hid h.book
 have HMED:=Lib.hid (fun (q:Nat) (hq:q<L.length)=>med_at h hq)
 have HRDY:=Lib.hid (ready_ok hok)
 have hlen:=hok.len
 have HX:Hid (sendV L x s z j={readyV z j (opensV s (takenAt L j).dsc) (takenAt L j).dsc.start with out:=z.out++[emiV L x (readyV z j (opensV s (takenAt L j).dsc) (takenAt L j).dsc.start) j (opensV s (takenAt L j).dsc)]}):=rfl
 have hjI:(j:Int)<(L.length:Int):=Int.ofNat_lt.2 hj
 clear h hs hok
 generalize sendV L x s z j=X at *
 obtain ⟨xp,xs,xb,xf⟩:=x
 dsimp only at HV
 have HEM:Hid (∀ r op,emiV L ⟨xp,xs,xb,xf⟩ r j op=⟨j,IntKind.u16.wrap r.out.length,IntKind.u32.wrap (IntKind.u32.wrap ((takenAt L j).pkt.time-(takenAt L r.opn.toNat).pkt.time)+r.begin),outOf xp xs,IntKind.u16.wrap (r.starts-1),op⟩):=fun _ _=>rfl
 generalize opensV s (takenAt L j).dsc=op at *
 have hm1:w1.rangeAt g (o+j*15) [.bool (takenAt L j).pkt.marker,.int .i64 (takenAt L j).pkt.type,.int .u16 (takenAt L j).pkt.seq,.int .u32 (takenAt L j).pkt.time,.int .u32 (takenAt L j).pkt.ssrc,.slice a1 n1 c1,.bool (takenAt L j).pkt.hasExt,.int .u16 (takenAt L j).pkt.profile,.slice a2 n2 c2,.slice a3 n3 c3,.int .i64 (takenAt L j).pkt.pad,.int .i64 (takenAt L j).dsc.layer,.bool (takenAt L j).dsc.key,.bool (takenAt L j).dsc.start,.int .u16 (takenAt L j).dsc.frame]:=fun m v hv=>cell_old (hm m v hv) hso.bel
 generalize (takenAt L j).pkt=P at *
 generalize (takenAt L j).dsc=D at *
 have hz:=heap_new w1 (.cells Yz4a 97)
 have HSO2:Hid (SO w ((w1.alloc (.cells Yz4a 97)).setRow w1.heap.size #[.bool P.marker,.int .i64 P.type,.int .u16 P.seq,.int .u32 P.time,.int .u32 P.ssrc,.slice a1 n1 c1,.bool P.hasExt,.int .u16 P.profile,.slice a2 n2 c2,.slice a3 n3 c3,.int .i64 P.pad,.int .i64 D.layer,.bool D.key,.bool D.start,.int .u16 D.frame]) K z uv uv):=hso.below (below_setRow (below_alloc w1 _) (Nat.le_refl _) _)
 have HT2:Hid (((w1.alloc (.cells Yz4a 97)).setRow w1.heap.size #[.bool P.marker,.int .i64 P.type,.int .u16 P.seq,.int .u32 P.time,.int .u32 P.ssrc,.slice a1 n1 c1,.bool P.hasExt,.int .u16 P.profile,.slice a2 n2 c2,.slice a3 n3 c3,.int .i64 P.pad,.int .i64 D.layer,.bool D.key,.bool D.start,.int .u16 D.frame]).heap[w1.heap.size]?=some (.cells #[.bool P.marker,.int .i64 P.type,.int .u16 P.seq,.int .u32 P.time,.int .u32 P.ssrc,.slice a1 n1 c1,.bool P.hasExt,.int .u16 P.profile,.slice a2 n2 c2,.slice a3 n3 c3,.int .i64 P.pad,.int .i64 D.layer,.bool D.key,.bool D.start,.int .u16 D.frame] 97 (0,0))):=setRow_heap _ _ _ #[.bool P.marker,.int .i64 P.type,.int .u16 P.seq,.int .u32 P.time,.int .u32 P.ssrc,.slice a1 n1 c1,.bool P.hasExt,.int .u16 P.profile,.slice a2 n2 c2,.slice a3 n3 c3,.int .i64 P.pad,.int .i64 D.layer,.bool D.key,.bool D.start,.int .u16 D.frame] _ _ hz
 have v0:w1.cell? ⟨V,0,none⟩=some (.pointer (some ⟨k,0,none⟩)):=by rw [cell_of ((hso.bel.block _ (hp_lt HV.out)).trans HV.out) 0];rfl
 have b2:w1.cell? ⟨k,2,none⟩=some (.slice (some ⟨g,o,none⟩) L.length c):=by rw [cell_of ((hso.bel.block _ (hp_lt HBK.out)).trans HBK.out) 2];rfl
 clear hm hso
 go_enter Tryz.func91,Tryz.ntmps91
 go_upto_region 1 with (first|(with_reducible refine load_at 97 (.tmp 17) rfl ?_;refine wpList_load_mid rfl 97 (.tmp 17) rfl g (o+j*15) rfl [.bool P.marker,.int .i64 P.type,.int .u16 P.seq,.int .u32 P.time,.int .u32 P.ssrc,.slice a1 n1 c1,.bool P.hasExt,.int .u16 P.profile,.slice a2 n2 c2,.slice a3 n3 c3,.int .i64 P.pad,.int .i64 D.layer,.bool D.key,.bool D.start,.int .u16 D.frame] _ hm1 Tryz.underlying97 rfl Yo3 ?_)|(with_reducible refine store_at 97 (.tmp 6) (.tmp 18) rfl ?_;refine store_rowTo2 rfl 97 (.tmp 6) (.tmp 18) rfl rfl w1.heap.size #[.bool P.marker,.int .i64 P.type,.int .u16 P.seq,.int .u32 P.time,.int .u32 P.ssrc,.slice a1 n1 c1,.bool P.hasExt,.int .u16 P.profile,.slice a2 n2 c2,.slice a3 n3 c3,.int .i64 P.pad,.int .i64 D.layer,.bool D.key,.bool D.start,.int .u16 D.frame] rfl rfl 97 Yz4a hz Yo3 Yo3 Yo3 ?_))
 clear hz hm1 v0 b2
 generalize ((w1.alloc (.cells Yz4a 97)).setRow w1.heap.size #[.bool P.marker,.int .i64 P.type,.int .u16 P.seq,.int .u32 P.time,.int .u32 P.ssrc,.slice a1 n1 c1,.bool P.hasExt,.int .u16 P.profile,.slice a2 n2 c2,.slice a3 n3 c3,.int .i64 P.pad,.int .i64 D.layer,.bool D.key,.bool D.start,.int .u16 D.frame])=w2 at *
 generalize w1.heap.size=T at *
 obtain ⟨out,opn,bg0,st0⟩:=z
 obtain ⟨ua,uc,rfl⟩:=Row.form (Row.of_owns HSO2.out.own)
 dsimp only at HX HRDY hlen HSO2
 have CN:=Lib.hid (CN0.out w2 HSO2.out.bel)
 clear CN0
 go_upto_if 22 with (go_at_call 89;refine CN.out.mono ?_;rintro e w3 ⟨rfl,hb3⟩;have HSO3:=Lib.hid (HSO2.out.below hb3);have HT3:Hid (w3.heap[T]?=some (.cells #[.bool P.marker,.int .i64 P.type,.int .u16 P.seq,.int .u32 P.time,.int .u32 P.ssrc,.slice a1 n1 c1,.bool P.hasExt,.int .u16 P.profile,.slice a2 n2 c2,.slice a3 n3 c3,.int .i64 P.pad,.int .i64 D.layer,.bool D.key,.bool D.start,.int .u16 D.frame] 97 (0,0))):=(hb3.block _ (hp_lt HT2.out)).trans HT2.out;clear hb3 HSO2 HT2)
 go_cut [] (fun wx=>SO w wx K ⟨out,if op then j else opn,if op then (if 0<out.length then IntKind.u32.wrap ((lastE out).time+3000) else bg0) else bg0,st0⟩ (.slice ua out.length uc) (.slice ua out.length uc)∧wx.heap[T]?=some (.cells #[.bool P.marker,.int .i64 P.type,.int .u16 P.seq,.int .u32 P.time,.int .u32 P.ssrc,.slice a1 n1 c1,.bool P.hasExt,.int .u16 P.profile,.slice a2 n2 c2,.slice a3 n3 c3,.int .i64 P.pad,.int .i64 D.layer,.bool D.key,.bool D.start,.int .u16 D.frame] 97 (0,0)))
 case first=>
  cases op with
  | false=>
   go_wp2_with fail
   go_meet
   exact ⟨HSO3.out,HT3.out⟩
  | true=>
   obtain ⟨u0,u1,u2,u3⟩:=HSO3.out.facts
   have f1:=frozen_of HSO3.out.blk 1
   have f2:=frozen_of HSO3.out.blk 2
   have hKT:T≠K:=fun e=>by
    have h1:=HT3.out
    rw [e,HSO3.out.blk] at h1
    injection h1 with h1
    injection h1 with _ h1
    exact absurd h1 (by decide)
   by_cases hl:0<out.length
   ·obtain ⟨m,hm⟩:∃ m,out.length=m+1:=⟨out.length-1,by omega⟩
    obtain ⟨ge,oe,hea,-,x2⟩:=emi_at (m:=m) (Row.of_owns HSO3.out.own) (by show m<out.length;omega)
    subst hea
    have HLA:Hid (lastE out=out.getD m noEmi):=by show _=_;unfold lastE;rw [hm];rfl
    have hw1:IntKind.i64.wrap ((out.length:Int)-1)=(m:Int):=by rw [IntWalk.i64_in _ (by omega)];omega
    have hmI:(m:Int)<(out.length:Int):=by omega
    have hmN:m<out.length:=by omega
    have dl:decide (0<(out.length:Int))=true:=decide_eq_true (by omega)
    have hl1:((out.length:Int)-1)=(m:Int):=by omega
    have HH:Hid (0<out.length):=hl
    dsimp only at x2
    generalize out.getD m noEmi=E at *
    clear hm hl
    go_wp2_with fail
    go_meet
    rw [if_pos trivial,if_pos trivial,if_pos HH.out,HLA.out,IntKind.wrap_u32]
    exact ⟨(HSO3.out.set 1 (.int .i64 (j:Int)) ⟨out,j,bg0,st0⟩ _ rfl rfl).set 2 _ ⟨out,j,(E.time+3000) % 4294967296,st0⟩ _ rfl rfl,(RowKit.Below.heap_setCell _ ⟨K,2,none⟩ _ T hKT).trans ((RowKit.Below.heap_setCell _ ⟨K,1,none⟩ _ T hKT).trans HT3.out)⟩
   ·have dl:decide (0<(out.length:Int))=false:=decide_eq_false (by omega)
    have dl2:decide (0<out.length)=false:=decide_eq_false hl
    have HH:Hid (¬0<out.length):=hl
    clear hl
    go_wp2_with fail
    go_meet
    rw [if_pos trivial,if_pos trivial,if_neg HH.out]
    exact ⟨HSO3.out.set 1 (.int .i64 (j:Int)) ⟨out,j,bg0,st0⟩ _ rfl rfl,(RowKit.Below.heap_setCell _ ⟨K,1,none⟩ _ T hKT).trans HT3.out⟩
 case rest=>
  obtain ⟨w4,rfl⟩:∃ W:World,W=wc:=⟨_,rfl⟩
  have HSO4:=Lib.hid hcut.1
  have HT4:=Lib.hid hcut.2
  clear hcut HSO3 HT3
  have hrd:=(HRDY.out op D.start).1
  have HXR:Hid (∀ st,readyV ⟨out,opn,bg0,st0⟩ j op st=⟨out,if op then j else opn,if op then (if 0<out.length then IntKind.u32.wrap ((lastE out).time+3000) else bg0) else bg0,if st then IntKind.u16.wrap (st0+1) else st0⟩):=fun _=>rfl
  rw [HXR.out] at hrd
  dsimp only at hrd
  generalize (if op then (if 0<out.length then IntKind.u32.wrap ((lastE out).time+3000) else bg0) else bg0)=bg at *
  generalize hq:(if op then (j:Int) else opn)=oq at *
  obtain ⟨q,rfl⟩:∃ q:Nat,oq=(q:Int):=⟨oq.toNat,by omega⟩
  have hqL:q<L.length:=by omega
  clear hrd HRDY hq
  have y13:w4.cell? ⟨T,13,none⟩=some (.bool D.start):=by rw [cell_of HT4.out 13];rfl
  go_upto_if 50 with fail
  clear y13
  go_cut [] (fun wx=>SO w wx K ⟨out,q,bg,if D.start then IntKind.u16.wrap (st0+1) else st0⟩ (.slice ua out.length uc) (.slice ua out.length uc)∧wx.heap[T]?=some (.cells #[.bool P.marker,.int .i64 P.type,.int .u16 P.seq,.int .u32 P.time,.int .u32 P.ssrc,.slice a1 n1 c1,.bool P.hasExt,.int .u16 P.profile,.slice a2 n2 c2,.slice a3 n3 c3,.int .i64 P.pad,.int .i64 D.layer,.bool D.key,.bool D.start,.int .u16 D.frame] 97 (0,0)))
  case first=>
   have hKT:T≠K:=fun e=>by
    have h1:=HT4.out
    rw [e,HSO4.out.blk] at h1
    injection h1 with h1
    injection h1 with _ h1
    exact absurd h1 (by decide)
   obtain ⟨u0,u1,u2,u3⟩:=HSO4.out.facts
   have f3:=frozen_of HSO4.out.blk 3
   dsimp only at u3
   obtain ⟨dly,dke,dst,dfm⟩:=D
   cases dst with
   | false=>
    go_wp2_with fail
    go_meet
    exact ⟨HSO4.out,HT4.out⟩
   | true=>
    go_wp2_with fail
    go_meet
    rw [if_pos trivial]
    exact ⟨HSO4.out.set 3 _ ⟨out,q,bg,IntKind.u16.wrap (st0+1)⟩ _ rfl rfl,(RowKit.Below.heap_setCell _ ⟨K,3,none⟩ _ T hKT).trans HT4.out⟩
  case rest=>
   obtain ⟨w5,rfl⟩:∃ W:World,W=wc:=⟨_,rfl⟩
   have HSO5:=Lib.hid (hcut.1.below (Below.refl _ _).drew)
   have HT5:Hid (w5.drew.heap[T]?=some (.cells #[.bool P.marker,.int .i64 P.type,.int .u16 P.seq,.int .u32 P.time,.int .u32 P.ssrc,.slice a1 n1 c1,.bool P.hasExt,.int .u16 P.profile,.slice a2 n2 c2,.slice a3 n3 c3,.int .i64 P.pad,.int .i64 D.layer,.bool D.key,.bool D.start,.int .u16 D.frame] 97 (0,0))):=hcut.2
   clear hcut HSO4 HT4
   have HXF:Hid (X=⟨out++[emiV L ⟨xp,xs,xb,xf⟩ ⟨out,q,bg,if D.start then IntKind.u16.wrap (st0+1) else st0⟩ j op],q,bg,if D.start then IntKind.u16.wrap (st0+1) else st0⟩):=by show _=_;rw [HX.out,HXR.out]
   rw [HEM.out] at HXF
   generalize (if D.start then IntKind.u16.wrap (st0+1) else st0)=sts at *
   dsimp only at HXF
   rw [Int.toNat_natCast] at HXF
   obtain ⟨g',o',c',b1,r1,s1,b2',r2,s2,b3,r3,s3,hgo,hmq⟩:=HMED.out q hqL
   cases hgo
   have HTQ:Hid (w.cell? ⟨g,o+q*15+3,none⟩=some (.int .u32 (takenAt L q).pkt.time)):=range_at hmq 3 rfl
   generalize (takenAt L q).pkt=PQ at *
   clear HX HXR HEM hmq HMED
   have hqI:(q:Int)<(L.length:Int):=Int.ofNat_lt.2 hqL
   have FACTS:Hid (∀ w',SO w w' K ⟨out,q,bg,sts⟩ (.slice ua out.length uc) (.slice ua out.length uc)→w'.heap[T]?=some (.cells #[.bool P.marker,.int .i64 P.type,.int .u16 P.seq,.int .u32 P.time,.int .u32 P.ssrc,.slice a1 n1 c1,.bool P.hasExt,.int .u16 P.profile,.slice a2 n2 c2,.slice a3 n3 c3,.int .i64 P.pad,.int .i64 D.layer,.bool D.key,.bool D.start,.int .u16 D.frame] 97 (0,0))→w'.cell? ⟨K,0,none⟩=some (.slice ua out.length uc)∧w'.cell? ⟨K,1,none⟩=some (.int .i64 (q:Int))∧w'.cell? ⟨K,2,none⟩=some (.int .u32 bg)∧w'.cell? ⟨K,3,none⟩=some (.int .u16 sts)∧w'.cell? ⟨T,3,none⟩=some (.int .u32 P.time)∧w'.cell? ⟨V,0,none⟩=some (.pointer (some ⟨k,0,none⟩))∧w'.cell? ⟨V,1,none⟩=some (.int .i64 xp)∧w'.cell? ⟨V,2,none⟩=some (.int .i64 xs)∧w'.cell? ⟨k,2,none⟩=some (.slice (some ⟨g,o,none⟩) L.length c)∧w'.cell? ⟨g,o+q*15+3,none⟩=some (.int .u32 PQ.time)):=fun w' h1 h2=>
    ⟨h1.facts.1,h1.facts.2.1,h1.facts.2.2.1,h1.facts.2.2.2,by rw [cell_of h2 3];rfl,by rw [cell_of ((h1.bel.block _ (hp_lt HV.out)).trans HV.out) 0];rfl,by rw [cell_of ((h1.bel.block _ (hp_lt HV.out)).trans HV.out) 1];rfl,by rw [cell_of ((h1.bel.block _ (hp_lt HV.out)).trans HV.out) 2];rfl,by rw [cell_of ((h1.bel.block _ (hp_lt HBK.out)).trans HBK.out) 2];rfl,cell_old HTQ.out h1.bel⟩
   have CO:=Lib.hid (sOut_any xp xs w5.drew)
   go_upto_region 9 with fail
   refine wp_region_noPanic ?_
   refine AnyT.region_start (d:=56) (S:=(fun w'=>w'.cell? ⟨K,0,none⟩=some (.slice ua out.length uc)∧w'.cell? ⟨K,1,none⟩=some (.int .i64 (q:Int))∧w'.cell? ⟨K,2,none⟩=some (.int .u32 bg)∧w'.cell? ⟨K,3,none⟩=some (.int .u16 sts)∧w'.cell? ⟨T,3,none⟩=some (.int .u32 P.time)∧w'.cell? ⟨V,0,none⟩=some (.pointer (some ⟨k,0,none⟩))∧w'.cell? ⟨V,1,none⟩=some (.int .i64 xp)∧w'.cell? ⟨V,2,none⟩=some (.int .i64 xs)∧w'.cell? ⟨k,2,none⟩=some (.slice (some ⟨g,o,none⟩) L.length c)∧w'.cell? ⟨g,o+q*15+3,none⟩=some (.int .u32 PQ.time))) Yo3 ?_ (fun _=>?_)
   ·(try dsimp only)
    exact FACTS.out _ HSO5.out HT5.out
   refine YP 0 (h:=YP 1 (h:=YP 2 (h:=YP 3 (h:=YP 5 (h:=YP 6 (h:=YP 7 (h:=YP 8 (h:=YP 9 (h:=YP 13 (h:=YP 14 (h:=YP 16 (h:=YP 17 (h:=YP 18 (h:=YP 23 (h:=YP 24 (h:=YP 25 (h:=YP 32 (h:=YP 33 (h:=YP 34 (h:=YP 37 (h:=YP 38 (h:=YP 39 (h:=YP 40 (h:=YP 42 (h:=YP 43 (h:=YP 44 (h:=YP 45 (h:=YP 48 (h:=YP 49 (h:=YP 50 (h:=YK 4 (h:=YK 10 (h:=YP 11 (h:=YP 12 (h:=YK 15 (h:=YK 19 (h:=YP 20 (h:=YP 21 (h:=YK 22 (h:=YK 26 (h:=YP 27 (h:=YP 28 (h:=YP 29 (h:=YK 30 (h:=YP 31 (h:=YK 35 (h:=YP 36 (h:=YK 41 (h:=YK 46 (h:=YK 51 (h:=YP 52 (h:=?_))))))))))))))))))))))))))))))))))))))))))))))))))))
   refine YR 47 (h:=fun K hK=>?_)
   go_simp
   refine CO.out.mono ?_
   rintro e w' ⟨rfl,rfl⟩
   go_wp2_with fail
   refine AnyT.go_on hK _ _ ?_ (fun _=>?_)
   ·(try dsimp only)
    exact FACTS.out _ HSO5.out HT5.out
   clear hK K
   try simp only [AnyT.pt]
   refine YP 53 (h:=YP 54 (h:=?_))
   refine YR 55 (h:=fun K hK=>?_)
   refine step_slice1 (by rfl) elemEmi (.tmp 112) (by rfl) #[.int .i64 (j:Int),.int .u16 (IntKind.u16.wrap (out.length:Int)),.int .u32 (IntKind.u32.wrap (IntKind.u32.wrap (P.time-PQ.time)+bg)),.int .u32 (outOf xp xs),.int .u16 (IntKind.u16.wrap (sts-1)),.bool op] (by rfl) (by rfl) (by decide) ?_
   have HR:Hid (Row (w5.drew.alloc (.cells #[.int .i64 (j:Int),.int .u16 (IntKind.u16.wrap (out.length:Int)),.int .u32 (IntKind.u32.wrap (IntKind.u32.wrap (P.time-PQ.time)+bg)),.int .u32 (outOf xp xs),.int .u16 (IntKind.u16.wrap (sts-1)),.bool op] 70)) 70 (.slice (some ⟨w5.drew.heap.size,0,none⟩) 1 1) 1 [.int .i64 (j:Int),.int .u16 (IntKind.u16.wrap (out.length:Int)),.int .u32 (IntKind.u32.wrap (IntKind.u32.wrap (P.time-PQ.time)+bg)),.int .u32 (outOf xp xs),.int .u16 (IntKind.u16.wrap (sts-1)),.bool op]):=rowNew w5.drew 70 1 [.int .i64 (j:Int),.int .u16 (IntKind.u16.wrap (out.length:Int)),.int .u32 (IntKind.u32.wrap (IntKind.u32.wrap (P.time-PQ.time)+bg)),.int .u32 (outOf xp xs),.int .u16 (IntKind.u16.wrap (sts-1)),.bool op] (by decide)
   have hal:=below_alloc w5.drew (.cells #[.int .i64 (j:Int),.int .u16 (IntKind.u16.wrap (out.length:Int)),.int .u32 (IntKind.u32.wrap (IntKind.u32.wrap (P.time-PQ.time)+bg)),.int .u32 (outOf xp xs),.int .u16 (IntKind.u16.wrap (sts-1)),.bool op] 70)
   have HSO5:=Lib.hid (HSO5.out.below hal)
   have HT5:=Lib.hid ((hal.block _ (hp_lt HT5.out)).trans HT5.out)
   clear hal
   refine AnyT.go_on hK _ _ ?_ (fun _=>?_)
   ·(try dsimp only)
    exact FACTS.out _ HSO5.out HT5.out
   clear hK K
   try simp only [AnyT.pt]
   refine YR 56 (h:=fun K hK=>?_)
   refine step_app (by rfl) (.tmp 62) (.tmp 113) 61 (by rfl) w.heap.size elemEmi (.slice ua out.length uc) out.length (out.flatMap emiCells) (by rfl) HSO5.out.own _ 1 [.int .i64 (j:Int),.int .u16 (IntKind.u16.wrap (out.length:Int)),.int .u32 (IntKind.u32.wrap (IntKind.u32.wrap (P.time-PQ.time)+bg)),.int .u32 (outOf xp xs),.int .u16 (IntKind.u16.wrap (sts-1)),.bool op] (by rfl) HR.out rfl (emi_one ⟨(j:Int),IntKind.u16.wrap (out.length:Int),IntKind.u32.wrap (IntKind.u32.wrap (P.time-PQ.time)+bg),outOf xp xs,IntKind.u16.wrap (sts-1),op⟩) (by omega) (by omega) HSO5.out.bel.size ?_
   intro v6 w6 HO6 HG6
   have HA6:Hid (w6.ownsRow w.heap.size 70 6 v6 (out++[(⟨j,IntKind.u16.wrap out.length,IntKind.u32.wrap (IntKind.u32.wrap (P.time-PQ.time)+bg),outOf xp xs,IntKind.u16.wrap (sts-1),op⟩:Emi)]).length ((out++[(⟨j,IntKind.u16.wrap out.length,IntKind.u32.wrap (IntKind.u32.wrap (P.time-PQ.time)+bg),outOf xp xs,IntKind.u16.wrap (sts-1),op⟩:Emi)]).flatMap emiCells)):=(by rw [List.length_append,List.flatMap_append];exact HO6.out)
   have HSO6:=Lib.hid (HSO5.out.grow HG6.out HA6.out)
   obtain ⟨na,nc,hnv⟩:∃ a c,v6 = .slice a (out.length+1) c:=by obtain ⟨a,c,h⟩:=Row.form (Row.of_owns HA6.out);exact ⟨a,c,by rw [h,List.length_append];rfl⟩
   subst hnv
   obtain ⟨u0,u1,u2,u3⟩:=HSO6.out.facts
   have f0:=frozen_of HSO6.out.blk 0
   refine AnyT.go_past hK _ _ Yo3 ?_
   clear hK K
   try simp only [AnyT.pt]
   refine YP 57 (h:=YP 58 (h:=?_))
   refine YR 59 (h:=fun K hK=>?_)
   go_simp
   have HSO7:=Lib.hid (HSO6.out.set 0 (.slice na (out.length+1) nc) _ (.slice na (out.length+1) nc) rfl rfl)
   refine AnyT.go_past hK _ _ Yo3 ?_
   clear hK K
   try simp only [AnyT.pt]
   refine AnyT.till_done Yo3 ?_ _
   refine NoPanic.normal ?_
   go_wp2_with fail
   first|refine bodyPost_end (results_none (by rfl) _ _ _) rfl ?_|refine bodyPost_ret (v:= .tuple #[]) (results_none (by rfl) _ _ _) rfl ?_
   exact ⟨rfl,_,by rw [HXF.out];exact HSO7.out⟩
end
end Go.Proofs.By
