/- Part of a proof. -/
import Derived.Test.YtpdjhlcbcomdkaaGreatDoorR27
set_option linter.unusedVariables false
set_option linter.unusedSimpArgs false
set_option maxRecDepth 100000
set_option maxHeartbeats 16000000
open Go Go.Q Go.Qr
namespace Go.Proofs.By
open Go.RowKit Go.Proofs.Heap Go.Proofs
open Go.Proofs.Rm (below_drewN)
structure NX (w w':World) (oc:Array Value) (s:VS):Prop where
 Zg:Below w w w'
 st:w'.heap[w.heap.size]?=some (.cells (XL s).toArray 202 (0,0))
 z:w'.heap[w.heap.size+1]?=some (.cells (Qf 0 0 false false) 202 (0,0))
 op:w'.heap[w.heap.size+2]?=some (.cells oc 32 (0,0))
theorem Hh (s:VS):(XL s).toArray.all (·.oneCell')=true:=by obtain ⟨a,b,c,d⟩:=s;kernel_rfl
section
variable {w w1 w2:World} {oc:Array Value} {s:VS}
theorem NX.below (h:NX w w1 oc s) (hb:Below w1 w1 w2):NX w w2 oc s:=⟨h.Zg.trans (hb.mono h.Zg.size),(hb.block _ (ZW h.st)).trans h.st,(hb.block _ (ZW h.z)).trans h.z,(hb.block _ (ZW h.op)).trans h.op⟩
theorem NX.set (h:NX w w1 oc s) (j:Nat) (u:Value) (s':VS) (hs:(XL s).set j u=XL s'):NX w (w1.setCell ⟨w,j,none⟩ u) oc s':=by
 have h2:=VH h.st j u;rw [List.setIfInBounds_toArray,hs] at h2;exact ⟨((Fr.Z7 PN h.Zg).setCell (p:=⟨w,j,none⟩) (Ws (Zw _)) _).below,h2,(MH w1 ⟨w,j,none⟩ u (w.heap.size+1) (by show w.heap.size+1≠w.heap.size;omega)).trans h.z,(MH w1 ⟨w,j,none⟩ u (w.heap.size+2) (by show w.heap.size+2≠w.heap.size;omega)).trans h.op⟩
theorem NX.row (h:NX w w1 oc s) (s':VS):NX w (w1.setRow w.heap.size (XL s').toArray) oc s':=
 ⟨Z3 h.Zg (Zw _) _,setRow_heap _ _ _ _ _ _ h.st,by rw [setRow_other _ _ _ _ Zo];exact h.z,by rw [setRow_other _ _ _ _ Zo];exact h.op⟩
end
section
variable {w:World} {V k:Nat} {ov av mv lv:Value} {L:List V7} {x:Zu} {wv cv qv:Value}
theorem rI (h:VB w V k ov av mv lv L x wv cv qv) {j:Nat} (hj:j<L.length) {s:VS} (hs:fu w wv cv qv j s) :
  Calls Tryz.prog 114 (Q4 (some ⟨V,0,none⟩) (XL s).toArray (j:Int)) w fun e w'=>e = .returned (.agg (XL (Ar L x s j)).toArray)∧Below w w w':=by
 obtain ⟨g,o,c,nm,a1,n1,c1,a2,n2,c2,hov,GD⟩:=pJ h.ops hj;obtain ⟨g9,o9,c9,x1,y1,z1,x2,y2,z2,x3,y3,z3,oF,hmed⟩:=Kh h hj;subst hov;subst oF;have CO:=Zh (fun (w':World) (hb:Below w w w')=>iV (h.below hb) hj);have CP:=Zh (fun (w':World) (hb:Below w w w')=>IX (h.below hb) hj);have CN:=Zh (fun (w':World) (hb:Below w w w')=>Tz (h.below hb) hj (hs.below hb));have Be:Hid (∀ w',Below w w w'→w'.heap[V]?=some (.cells (Q6 (some ⟨k,0,none⟩) x.peer x.source x.MR x.fin wv cv qv) 164 (0,0))):=fun w' hb=>(hb.block _ (ZW h.view)).trans h.view
 have DA:Hid (∀ w',Below w w w'→w'.heap[k]?=some (.cells #[.slice (some ⟨g,o,none⟩) L.length c,av,.slice (some ⟨g9,o9,none⟩) L.length c9,lv] 116 (0,0))):=fun w' hb=>(hb.block _ (ZW h.book)).trans h.book
 have HLY:Hid (∀ w',Below w w w'→w'.cell? ⟨g9,o9+j*15+11,none⟩=some (.int .i64 (Z5 L j).WJ.ZH)):=fun w' hb=>Yp (Pn hmed 11 rfl) hb
 have v0:w.cell? ⟨V,0,none⟩=some (.pointer (some ⟨k,0,none⟩)):=Zc h.view 0 rfl;have b0:w.cell? ⟨k,0,none⟩=some (.slice (some ⟨g,o,none⟩) L.length c):=Zc h.book 0 rfl;have HX:Hid (Ar L x s j=if Wa L x j && VY s (Z5 L j).WJ then {DZ L x s j with cur:=(Z5 L j).WJ.ZH} else DZ L x s j):=rfl;have HC:Hid (DZ L x s j=if (opAt L j).source=x.source then (if (opAt L j).peer=x.peer∧QH x j=true then Mj (YN s (lI L j)) (lI L j) (opAt L j).ZH else YN s (lI L j)) else s):=rfl;have zW:(j:Int)<(L.length:Int):=OP.2 hj;have hVl:=ZW h.view;have VK:=ZW h.book;clear h hs hmed;generalize Ar L x s j=X at *
 generalize DZ L x s j=C at *
 generalize lI L j=KD at *
 generalize Wa L x j=pk at *
 generalize VY s (Z5 L j).WJ=opn at *
 generalize (Z5 L j).WJ.ZH=ly at *
 obtain ⟨xp,xs,xb,xf⟩:=x;generalize opAt L j=O at *
 obtain ⟨kd,p,sr,q,nm0,ss0⟩:=O;dsimp only at HC GD Be;have hop2:((w.alloc (.cells (Qf s.want s.cur s.ZQ s.ZE) 202)).alloc (.cells (Qf 0 0 false false) 202)).rangeAt g (o+j*7) (Qa kd p sr q nm a1 n1 c1 a2 n2 c2):=fun m v hm=>Yp (GD m v hm) (ZF (Z' w _) (Zw _) _)
 dsimp only [XL]
 have hz:((((w.alloc (.cells (Qf s.want s.cur s.ZQ s.ZE) 202)).alloc (.cells (Qf 0 0 false false) 202))).alloc (.cells LX 32)).heap[w.heap.size+2]?=some (.cells LX 32 (0,0)):=by
  have h:=Z8 ((w.alloc (.cells (Qf s.want s.cur s.ZQ s.ZE) 202)).alloc (.cells (Qf 0 0 false false) 202)) (.cells LX 32);rw [size_alloc,size_alloc] at h;exact h
 have yr:Hid (NX w (((((w.alloc (.cells (Qf s.want s.cur s.ZQ s.ZE) 202)).alloc (.cells (Qf 0 0 false false) 202))).alloc (.cells LX 32)).setRow (w.heap.size+2) (Qa kd p sr q nm a1 n1 c1 a2 n2 c2)) (Qa kd p sr q nm a1 n1 c1 a2 n2 c2) s):=by
  obtain ⟨q1,q2⟩:=V5 w (.cells (Qf s.want s.cur s.ZQ s.ZE) 202) (.cells (Qf 0 0 false false) 202);have q3:=Z' ((w.alloc (.cells (Qf s.want s.cur s.ZQ s.ZE) 202)).alloc (.cells (Qf 0 0 false false) 202)) (.cells LX 32);refine ⟨Z3 (ZF (ZF (Z' w _) (Zw _) _) (Zw _) _) Zo _,?_,?_,setRow_heap _ _ _ _ _ _ hz⟩
  ·rw [setRow_other _ _ _ _ Zo];exact (q3.block _ (ZW q1)).trans q1
  ·rw [setRow_other _ _ _ _ Zo];exact (q3.block _ (ZW q2)).trans q2
 go_enter Tryz.func114,Tryz.ntmps114;go_upto_region 2 with (first|(with_reducible refine Zj 32 (.tmp 16) rfl ?_;refine wpList_load_mid rfl 32 (.tmp 16) rfl g (o+j*7) rfl (Qa kd p sr q nm a1 n1 c1 a2 n2 c2) _ hop2 Tryz.underlying32 rfl ZB ?_)|(with_reducible refine ZU 32 (.tmp 7) (.tmp 17) rfl ?_;refine ZV rfl 32 (.tmp 7) (.tmp 17) rfl rfl (w.heap.size+2) (Qa kd p sr q nm a1 n1 c1 a2 n2 c2) rfl rfl 32 LX hz ZB ZB ZB ?_))
 clear hz GD hop2 v0 b0;generalize (((((w.alloc (.cells (Qf s.want s.cur s.ZQ s.ZE) 202)).alloc (.cells (Qf 0 0 false false) 202))).alloc (.cells LX 32)).setRow (w.heap.size+2) (Qa kd p sr q nm a1 n1 c1 a2 n2 c2))=w3 at *
 have o2:w3.cell? ⟨w.heap.size+2,2,none⟩=some (.int .i64 sr):=Zc yr.o.op 2 rfl;have z2':w3.cell? ⟨V,2,none⟩=some (.int .i64 xs):=Zc (Be.o _ yr.o.Zg) 2 rfl;go_quiet (fail)
 have LN:=Zh (yr.o.below (below_drewN (YJ _ _) nq));clear yr o2 z2';generalize w3.drewN nq=w4 at *
 go_upto_if 25 with fail
 go_cut [] (fun wx=>NX w wx (Qa kd p sr q nm a1 n1 c1 a2 n2 c2) C)
 case first=>
  by_cases hs:sr=xs
  rotate_left
  ·have f:(sr == xs)=false:=by rw [WR];exact hs
   have DC:Hid (C=s):=by show _=_;rw [HC.o,Z4 hs]
   go_wp2_with fail
   go_meet;rw [DC.o];exact LN.o
  have DC:Hid (C=if p=xp∧QH ⟨xp,xs,xb,xf⟩ j=true then Mj (YN s KD) KD q else YN s KD):=by show _=_;rw [HC.o,ZR hs]
  have f:(sr == xs)=true:=by rw [beq_iff_eq];exact hs
  have eK:=Zh (CO.o _ LN.o.Zg);have v0:w4.cell? ⟨V,0,none⟩=some (.pointer (some ⟨k,0,none⟩)):=Zc (Be.o _ LN.o.Zg) 0 rfl;clear HC hs;have hKK:KD=4∨KD=9∨KD=8∨(KD≠4∧KD≠9∧KD≠8):=by omega
  rcases hKK with hK|hK|hK|⟨hK4,hK9,hK8⟩
  ·subst hK;have u1:=cell_of LN.o.st 1;have u3:=cell_of LN.o.st 3;have f1:=ZO LN.o.st 1;have f3:=ZO LN.o.st 3;simp only [XL,SE,SD,R8] at u1 u3;go_upto_region 9 with (go_at_call 143;refine eK.o.mono ?_;rintro e w' ⟨rfl,rfl⟩)
   have LO:Hid (NX w (w4.setCell ⟨w,3,none⟩ (.bool false)) (Qa kd p sr q nm a1 n1 c1 a2 n2 c2) (YN s 4)):=LN.o.set 3 (.bool false) ⟨s.want,s.cur,s.ZQ,false⟩ rfl;clear LN u1 u3 f1 f3 v0 eK;generalize w4.setCell ⟨w,3,none⟩ (.bool false)=w5 at *
   have p1:w5.cell? ⟨w.heap.size+2,1,none⟩=some (.int .i64 p):=Zc LO.o.op 1 rfl;have eH:w5.cell? ⟨V,1,none⟩=some (.int .i64 xp):=Zc (Be.o _ LO.o.Zg) 1 rfl;by_cases hp:p=xp
   rotate_left
   ·have fp:(p == xp)=false:=by rw [WR];exact hp
    have Hu:Hid (C=YN s 4):=by show _=_;rw [DC.o,Z4 (fun h=>hp h.1)]
    go_quiet (fail)
    exact ng
   have fp:(p == xp)=true:=by rw [beq_iff_eq];exact hp
   have CL:Hid (∀ n,Calls Tryz.prog 115 (Qk (some ⟨V,0,none⟩) (j:Int)) (w5.drewN n) fun e w'=>e = .returned (.bool (QH ⟨xp,xs,xb,xf⟩ (j:Int)))∧w'=w5.drewN n):=fun n=>(OM V xp xs xb xf wv cv qv _ (w5.drewN n) (Be.o w5 LO.o.Zg) (j:Int)).mono fun e w' ⟨a,b⟩=>⟨a,b.symm⟩
   generalize QH ⟨xp,xs,xb,xf⟩ (j:Int)=l at *
   cases l with
   | false=>
    have Hu:Hid (C=YN s 4):=by show _=_;rw [DC.o,Z4 (fun h=>absurd h.2 Zd)]
    exact jh
   | true=>
    have Hu:Hid (C=Mj (YN s 4) 4 q):=by show _=_;rw [DC.o,ZR ⟨hp,rfl⟩]
    go_quiet ((go_at_call 115;exact Calls.quiet_of_same (CL.o _)))
    have Ip:=Zh (LO.o.below (below_drewN (YJ _ _) nq));clear p1 eH CL LO;generalize w5.drewN nq=w6 at *
    have Zz:Hid (∀ w',Below w6 w6 w'→w'.rangeAt w.heap.size 0 (Qf (YN s 4).want (YN s 4).cur (YN s 4).ZQ (YN s 4).ZE)∧w'.cell? ⟨V,0,none⟩=some (.pointer (some ⟨k,0,none⟩))∧w'.cell? ⟨w.heap.size+2,3,none⟩=some (.int .i64 q)∧Below w6 w6 w'):=fun w' hb=>
     ⟨fun m v hm=>by rw [QD,cell_of (Ip.o.below hb).st m];simpa [XL] using hm,Zc (Be.o _ (Ip.o.below hb).Zg) 0 rfl,by rw [cell_of (Ip.o.below hb).op 3];rfl,hb⟩
    have aH:=Zh (CO.o _ (Ip.o.below (YJ _ _).drew).Zg);have lL:=Zh (KL (YN s 4) 4 q w6.drew);go_upto_region 10 with fail
    refine SX ?_;refine Z_.Zy (d:=10) (S:=(fun w'=>w'.rangeAt w.heap.size 0 (Qf (YN s 4).want (YN s 4).cur (YN s 4).ZQ (YN s 4).ZE)∧w'.cell? ⟨V,0,none⟩=some (.pointer (some ⟨k,0,none⟩))∧w'.cell? ⟨w.heap.size+2,3,none⟩=some (.int .i64 q)∧Below w6 w6 w')) ZB ?_ (fun _=>?_)
    ·(try dsimp only)
     exact Zz.o _ (YJ _ _).drew
    refine YP 1 (h:=YP 2 (h:=YP 3 (h:=YP 5 (h:=YP 7 (h:=?_)))));refine Z_.tk 0 ?_ rfl ?_ <| ?_
    rotate_left
    ·intro wS Uq;(try dsimp only at Uq)
     refine (XH 202 (.tmp 4) ?_ w.heap.size 0 ?_ (Qf (YN s 4).want (YN s 4).cur (YN s 4).ZQ (YN s 4).ZE) _ Uq.1 Tryz.underlying202 rfl ZB).trans ?_;all_goals rfl
    try simp only [Z_.pt]
    refine YK 4 (h:=YK 8 (h:=?_));refine YR 6 (h:=fun K hK=>?_);go_simp;refine aH.o.mono ?_;rintro e w' ⟨rfl,rfl⟩;go_wp2_with fail
    refine Z_.Zb hK _ _ ?_ (fun _=>?_)
    ·(try dsimp only)
     exact Zz.o _ zn
    clear hK K;try simp only [Z_.pt]
    refine YR 9 (h:=fun K hK=>?_);go_simp;refine lL.o.mono ?_;rintro e w7 ⟨rfl,Mw⟩;have IJ:=Zh ((YJ w6.heap.size w6).drew.trans Mw);clear Mw;go_wp2_with fail
    refine Z_.Zb hK _ _ ?_ (fun _=>?_)
    ·(try dsimp only)
     exact Zz.o _ zn
    clear hK K;try simp only [Z_.pt]
    refine YR 10 (h:=fun K hK=>?_);have fh:=Zh (Ip.o.below IJ.o);refine Sq Zr 202 (.tmp 4) (.tmp 62) Zr Zr w.heap.size (XL (Mj (YN s 4) 4 q)).toArray Zr Zr 202 _ fh.o.st ZB Zr (Hh _) ?_;exact jr
  ·subst hK;have u1:=cell_of LN.o.st 1;have u3:=cell_of LN.o.st 3;have f1:=ZO LN.o.st 1;have f3:=ZO LN.o.st 3;simp only [XL,SE,SD,R8] at u1 u3;go_upto_region 9 with (go_at_call 143;refine eK.o.mono ?_;rintro e w' ⟨rfl,rfl⟩)
   have LO:Hid (NX w (w4.setCell ⟨w,3,none⟩ (.bool false)) (Qa kd p sr q nm a1 n1 c1 a2 n2 c2) (YN s 9)):=LN.o.set 3 (.bool false) ⟨s.want,s.cur,s.ZQ,false⟩ rfl;clear LN u1 u3 f1 f3 v0 eK;generalize w4.setCell ⟨w,3,none⟩ (.bool false)=w5 at *
   have p1:w5.cell? ⟨w.heap.size+2,1,none⟩=some (.int .i64 p):=Zc LO.o.op 1 rfl;have eH:w5.cell? ⟨V,1,none⟩=some (.int .i64 xp):=Zc (Be.o _ LO.o.Zg) 1 rfl;by_cases hp:p=xp
   rotate_left
   ·have fp:(p == xp)=false:=by rw [WR];exact hp
    have Hu:Hid (C=YN s 9):=by show _=_;rw [DC.o,Z4 (fun h=>hp h.1)]
    go_quiet (fail)
    exact ng
   have fp:(p == xp)=true:=by rw [beq_iff_eq];exact hp
   have CL:Hid (∀ n,Calls Tryz.prog 115 (Qk (some ⟨V,0,none⟩) (j:Int)) (w5.drewN n) fun e w'=>e = .returned (.bool (QH ⟨xp,xs,xb,xf⟩ (j:Int)))∧w'=w5.drewN n):=fun n=>(OM V xp xs xb xf wv cv qv _ (w5.drewN n) (Be.o w5 LO.o.Zg) (j:Int)).mono fun e w' ⟨a,b⟩=>⟨a,b.symm⟩
   generalize QH ⟨xp,xs,xb,xf⟩ (j:Int)=l at *
   cases l with
   | false=>
    have Hu:Hid (C=YN s 9):=by show _=_;rw [DC.o,Z4 (fun h=>absurd h.2 Zd)]
    exact jh
   | true=>
    have Hu:Hid (C=Mj (YN s 9) 9 q):=by show _=_;rw [DC.o,ZR ⟨hp,rfl⟩]
    go_quiet ((go_at_call 115;exact Calls.quiet_of_same (CL.o _)))
    have Ip:=Zh (LO.o.below (below_drewN (YJ _ _) nq));clear p1 eH CL LO;generalize w5.drewN nq=w6 at *
    have Zz:Hid (∀ w',Below w6 w6 w'→w'.rangeAt w.heap.size 0 (Qf (YN s 9).want (YN s 9).cur (YN s 9).ZQ (YN s 9).ZE)∧w'.cell? ⟨V,0,none⟩=some (.pointer (some ⟨k,0,none⟩))∧w'.cell? ⟨w.heap.size+2,3,none⟩=some (.int .i64 q)∧Below w6 w6 w'):=fun w' hb=>
     ⟨fun m v hm=>by rw [QD,cell_of (Ip.o.below hb).st m];simpa [XL] using hm,Zc (Be.o _ (Ip.o.below hb).Zg) 0 rfl,by rw [cell_of (Ip.o.below hb).op 3];rfl,hb⟩
    have aH:=Zh (CO.o _ (Ip.o.below (YJ _ _).drew).Zg);have lL:=Zh (KL (YN s 9) 9 q w6.drew);go_upto_region 10 with fail
    refine SX ?_;refine Z_.Zy (d:=10) (S:=(fun w'=>w'.rangeAt w.heap.size 0 (Qf (YN s 9).want (YN s 9).cur (YN s 9).ZQ (YN s 9).ZE)∧w'.cell? ⟨V,0,none⟩=some (.pointer (some ⟨k,0,none⟩))∧w'.cell? ⟨w.heap.size+2,3,none⟩=some (.int .i64 q)∧Below w6 w6 w')) ZB ?_ (fun _=>?_)
    ·(try dsimp only)
     exact Zz.o _ (YJ _ _).drew
    refine YP 1 (h:=YP 2 (h:=YP 3 (h:=YP 5 (h:=YP 7 (h:=?_)))));refine Z_.tk 0 ?_ rfl ?_ <| ?_
    rotate_left
    ·intro wS Uq;(try dsimp only at Uq)
     refine (XH 202 (.tmp 4) ?_ w.heap.size 0 ?_ (Qf (YN s 9).want (YN s 9).cur (YN s 9).ZQ (YN s 9).ZE) _ Uq.1 Tryz.underlying202 rfl ZB).trans ?_;all_goals rfl
    try simp only [Z_.pt]
    refine YK 4 (h:=YK 8 (h:=?_));refine YR 6 (h:=fun K hK=>?_);go_simp;refine aH.o.mono ?_;rintro e w' ⟨rfl,rfl⟩;go_wp2_with fail
    refine Z_.Zb hK _ _ ?_ (fun _=>?_)
    ·(try dsimp only)
     exact Zz.o _ zn
    clear hK K;try simp only [Z_.pt]
    refine YR 9 (h:=fun K hK=>?_);go_simp;refine lL.o.mono ?_;rintro e w7 ⟨rfl,Mw⟩;have IJ:=Zh ((YJ w6.heap.size w6).drew.trans Mw);clear Mw;go_wp2_with fail
    refine Z_.Zb hK _ _ ?_ (fun _=>?_)
    ·(try dsimp only)
     exact Zz.o _ zn
    clear hK K;try simp only [Z_.pt]
    refine YR 10 (h:=fun K hK=>?_);have fh:=Zh (Ip.o.below IJ.o);refine Sq Zr 202 (.tmp 4) (.tmp 62) Zr Zr w.heap.size (XL (Mj (YN s 9) 9 q)).toArray Zr Zr 202 _ fh.o.st ZB Zr (Hh _) ?_;exact jr
  ·subst hK;have u1:=cell_of LN.o.st 1;have u3:=cell_of LN.o.st 3;have f1:=ZO LN.o.st 1;have f3:=ZO LN.o.st 3;simp only [XL,SE,SD,R8] at u1 u3;go_upto_region 9 with (go_at_call 143;refine eK.o.mono ?_;rintro e w' ⟨rfl,rfl⟩)
   have LO:Hid (NX w ((w4.setCell ⟨w,3,none⟩ (.bool true)).setCell ⟨w,1,none⟩ (.int .i64 (-1))) (Qa kd p sr q nm a1 n1 c1 a2 n2 c2) (YN s 8)):=(LN.o.set 3 (.bool true) ⟨s.want,s.cur,s.ZQ,true⟩ rfl).set 1 (.int .i64 (-1)) ⟨s.want,-1,s.ZQ,true⟩ rfl;clear LN u1 u3 f1 f3 v0 eK;generalize (w4.setCell ⟨w,3,none⟩ (.bool true)).setCell ⟨w,1,none⟩ (.int .i64 (-1))=w5 at *
   have p1:w5.cell? ⟨w.heap.size+2,1,none⟩=some (.int .i64 p):=Zc LO.o.op 1 rfl;have eH:w5.cell? ⟨V,1,none⟩=some (.int .i64 xp):=Zc (Be.o _ LO.o.Zg) 1 rfl;by_cases hp:p=xp
   rotate_left
   ·have fp:(p == xp)=false:=by rw [WR];exact hp
    have Hu:Hid (C=YN s 8):=by show _=_;rw [DC.o,Z4 (fun h=>hp h.1)]
    go_quiet (fail)
    exact ng
   have fp:(p == xp)=true:=by rw [beq_iff_eq];exact hp
   have CL:Hid (∀ n,Calls Tryz.prog 115 (Qk (some ⟨V,0,none⟩) (j:Int)) (w5.drewN n) fun e w'=>e = .returned (.bool (QH ⟨xp,xs,xb,xf⟩ (j:Int)))∧w'=w5.drewN n):=fun n=>(OM V xp xs xb xf wv cv qv _ (w5.drewN n) (Be.o w5 LO.o.Zg) (j:Int)).mono fun e w' ⟨a,b⟩=>⟨a,b.symm⟩
   generalize QH ⟨xp,xs,xb,xf⟩ (j:Int)=l at *
   cases l with
   | false=>
    have Hu:Hid (C=YN s 8):=by show _=_;rw [DC.o,Z4 (fun h=>absurd h.2 Zd)]
    exact jh
   | true=>
    have Hu:Hid (C=Mj (YN s 8) 8 q):=by show _=_;rw [DC.o,ZR ⟨hp,rfl⟩]
    go_quiet ((go_at_call 115;exact Calls.quiet_of_same (CL.o _)))
    have Ip:=Zh (LO.o.below (below_drewN (YJ _ _) nq));clear p1 eH CL LO;generalize w5.drewN nq=w6 at *
    have Zz:Hid (∀ w',Below w6 w6 w'→w'.rangeAt w.heap.size 0 (Qf (YN s 8).want (YN s 8).cur (YN s 8).ZQ (YN s 8).ZE)∧w'.cell? ⟨V,0,none⟩=some (.pointer (some ⟨k,0,none⟩))∧w'.cell? ⟨w.heap.size+2,3,none⟩=some (.int .i64 q)∧Below w6 w6 w'):=fun w' hb=>
     ⟨fun m v hm=>by rw [QD,cell_of (Ip.o.below hb).st m];simpa [XL] using hm,Zc (Be.o _ (Ip.o.below hb).Zg) 0 rfl,by rw [cell_of (Ip.o.below hb).op 3];rfl,hb⟩
    have aH:=Zh (CO.o _ (Ip.o.below (YJ _ _).drew).Zg);have lL:=Zh (KL (YN s 8) 8 q w6.drew);go_upto_region 10 with fail
    refine SX ?_;refine Z_.Zy (d:=10) (S:=(fun w'=>w'.rangeAt w.heap.size 0 (Qf (YN s 8).want (YN s 8).cur (YN s 8).ZQ (YN s 8).ZE)∧w'.cell? ⟨V,0,none⟩=some (.pointer (some ⟨k,0,none⟩))∧w'.cell? ⟨w.heap.size+2,3,none⟩=some (.int .i64 q)∧Below w6 w6 w')) ZB ?_ (fun _=>?_)
    ·(try dsimp only)
     exact Zz.o _ (YJ _ _).drew
    refine YP 1 (h:=YP 2 (h:=YP 3 (h:=YP 5 (h:=YP 7 (h:=?_)))));refine Z_.tk 0 ?_ rfl ?_ <| ?_
    rotate_left
    ·intro wS Uq;(try dsimp only at Uq)
     refine (XH 202 (.tmp 4) ?_ w.heap.size 0 ?_ (Qf (YN s 8).want (YN s 8).cur (YN s 8).ZQ (YN s 8).ZE) _ Uq.1 Tryz.underlying202 rfl ZB).trans ?_;all_goals rfl
    try simp only [Z_.pt]
    refine YK 4 (h:=YK 8 (h:=?_));refine YR 6 (h:=fun K hK=>?_);go_simp;refine aH.o.mono ?_;rintro e w' ⟨rfl,rfl⟩;go_wp2_with fail
    refine Z_.Zb hK _ _ ?_ (fun _=>?_)
    ·(try dsimp only)
     exact Zz.o _ zn
    clear hK K;try simp only [Z_.pt]
    refine YR 9 (h:=fun K hK=>?_);go_simp;refine lL.o.mono ?_;rintro e w7 ⟨rfl,Mw⟩;have IJ:=Zh ((YJ w6.heap.size w6).drew.trans Mw);clear Mw;go_wp2_with fail
    refine Z_.Zb hK _ _ ?_ (fun _=>?_)
    ·(try dsimp only)
     exact Zz.o _ zn
    clear hK K;try simp only [Z_.pt]
    refine YR 10 (h:=fun K hK=>?_);have fh:=Zh (Ip.o.below IJ.o);refine Sq Zr 202 (.tmp 4) (.tmp 62) Zr Zr w.heap.size (XL (Mj (YN s 8) 8 q)).toArray Zr Zr 202 _ fh.o.st ZB Zr (Hh _) ?_;exact jr
  ·have g4:(KD == 4)=false:=by rw [WR];exact hK4
   have g9:(KD == 9)=false:=by rw [WR];exact hK9
   have g8:(KD == 8)=false:=by rw [WR];exact hK8
   have qu:Hid (YN s KD=s):=by show _=_;unfold YN;rw [Z4 Zo,Z4 hK8]
   have aO:Hid (C=if p=xp∧QH ⟨xp,xs,xb,xf⟩ j=true then Mj s KD q else s):=by show _=_;rw [DC.o,qu.o]
   clear DC qu;have DC:=aO;clear aO;go_upto_region 9 with (go_at_call 143;refine eK.o.mono ?_;rintro e w' ⟨rfl,rfl⟩)
   have LO:=LN;clear LN v0 eK;obtain ⟨w5,rfl⟩:∃ W:World,W=w4:=⟨_,rfl⟩;have p1:w5.cell? ⟨w.heap.size+2,1,none⟩=some (.int .i64 p):=Zc LO.o.op 1 rfl;have eH:w5.cell? ⟨V,1,none⟩=some (.int .i64 xp):=Zc (Be.o _ LO.o.Zg) 1 rfl;by_cases hp:p=xp
   rotate_left
   ·have fp:(p == xp)=false:=by rw [WR];exact hp
    have Hu:Hid (C=s):=by show _=_;rw [DC.o,Z4 (fun h=>hp h.1)]
    go_quiet (fail)
    exact ng
   have fp:(p == xp)=true:=by rw [beq_iff_eq];exact hp
   have CL:Hid (∀ n,Calls Tryz.prog 115 (Qk (some ⟨V,0,none⟩) (j:Int)) (w5.drewN n) fun e w'=>e = .returned (.bool (QH ⟨xp,xs,xb,xf⟩ (j:Int)))∧w'=w5.drewN n):=fun n=>(OM V xp xs xb xf wv cv qv _ (w5.drewN n) (Be.o w5 LO.o.Zg) (j:Int)).mono fun e w' ⟨a,b⟩=>⟨a,b.symm⟩
   generalize QH ⟨xp,xs,xb,xf⟩ (j:Int)=l at *
   cases l with
   | false=>
    have Hu:Hid (C=s):=by show _=_;rw [DC.o,Z4 (fun h=>absurd h.2 Zd)]
    exact jh
   | true=>
    have Hu:Hid (C=Mj (s) KD q):=by show _=_;rw [DC.o,ZR ⟨hp,rfl⟩]
    go_quiet ((go_at_call 115;exact Calls.quiet_of_same (CL.o _)))
    have Ip:=Zh (LO.o.below (below_drewN (YJ _ _) nq));clear p1 eH CL LO;generalize w5.drewN nq=w6 at *
    have Zz:Hid (∀ w',Below w6 w6 w'→w'.rangeAt w.heap.size 0 (Qf (s).want (s).cur (s).ZQ (s).ZE)∧w'.cell? ⟨V,0,none⟩=some (.pointer (some ⟨k,0,none⟩))∧w'.cell? ⟨w.heap.size+2,3,none⟩=some (.int .i64 q)∧Below w6 w6 w'):=fun w' hb=>
     ⟨fun m v hm=>by rw [QD,cell_of (Ip.o.below hb).st m];simpa [XL] using hm,Zc (Be.o _ (Ip.o.below hb).Zg) 0 rfl,by rw [cell_of (Ip.o.below hb).op 3];rfl,hb⟩
    have aH:=Zh (CO.o _ (Ip.o.below (YJ _ _).drew).Zg);have lL:=Zh (KL (s) KD q w6.drew);go_upto_region 10 with fail
    refine SX ?_;refine Z_.Zy (d:=10) (S:=(fun w'=>w'.rangeAt w.heap.size 0 (Qf (s).want (s).cur (s).ZQ (s).ZE)∧w'.cell? ⟨V,0,none⟩=some (.pointer (some ⟨k,0,none⟩))∧w'.cell? ⟨w.heap.size+2,3,none⟩=some (.int .i64 q)∧Below w6 w6 w')) ZB ?_ (fun _=>?_)
    ·(try dsimp only)
     exact Zz.o _ (YJ _ _).drew
    refine YP 1 (h:=YP 2 (h:=YP 3 (h:=YP 5 (h:=YP 7 (h:=?_)))));refine Z_.tk 0 ?_ rfl ?_ <| ?_
    rotate_left
    ·intro wS Uq;(try dsimp only at Uq)
     refine (XH 202 (.tmp 4) ?_ w.heap.size 0 ?_ (Qf (s).want (s).cur (s).ZQ (s).ZE) _ Uq.1 Tryz.underlying202 rfl ZB).trans ?_;all_goals rfl
    try simp only [Z_.pt]
    refine YK 4 (h:=YK 8 (h:=?_));refine YR 6 (h:=fun K hK=>?_);go_simp;refine aH.o.mono ?_;rintro e w' ⟨rfl,rfl⟩;go_wp2_with fail
    refine Z_.Zb hK _ _ ?_ (fun _=>?_)
    ·(try dsimp only)
     exact Zz.o _ zn
    clear hK K;try simp only [Z_.pt]
    refine YR 9 (h:=fun K hK=>?_);go_simp;refine lL.o.mono ?_;rintro e w7 ⟨rfl,Mw⟩;have IJ:=Zh ((YJ w6.heap.size w6).drew.trans Mw);clear Mw;go_wp2_with fail
    refine Z_.Zb hK _ _ ?_ (fun _=>?_)
    ·(try dsimp only)
     exact Zz.o _ zn
    clear hK K;try simp only [Z_.pt]
    refine YR 10 (h:=fun K hK=>?_);have fh:=Zh (Ip.o.below IJ.o);refine Sq Zr 202 (.tmp 4) (.tmp 62) Zr Zr w.heap.size (XL (Mj (s) KD q)).toArray Zr Zr 202 _ fh.o.st ZB Zr (Hh _) ?_;exact jr
 case rest=>
  obtain ⟨w9,rfl⟩:∃ W:World,W=wc:=⟨_,rfl⟩;have HN9:=Zh hcut;clear hcut LN HC CO;have CP9:=Zh (CP.o _ HN9.o.Zg);obtain ⟨ca,cc,cp,cm⟩:=C;cases pk with
  | false=>
   have VA:Hid (X=⟨ca,cc,cp,cm⟩):=by show _=_;rw [HX.o];rfl
   clear HX CN;go_wp2_with (first|(go_at_call 88;refine CP9.o.mono ?_;rintro e UH ⟨rfl,PE⟩;have Kw:=Zh (HN9.o.below PE);have kA:UH.heap[w.heap.size]?=some (.cells (Qf ca cc cp cm) 202 (0,0)):=Kw.o.st;have zA:=Kw.o.z;clear PE)|(with_reducible refine Zj 202 (.tmp 4) rfl ?_;refine Zf rfl 202 (.tmp 4) rfl w.heap.size rfl 202 (Qf ca cc cp cm) (0,0) _ kA Tryz.underlying202 rfl ZB ?_)|(with_reducible refine ZU 202 (.tmp 6) (.tmp 84) rfl ?_;refine ZV rfl 202 (.tmp 6) (.tmp 84) rfl rfl (w.heap.size+1) (Qf ca cc cp cm) rfl rfl 202 (Qf 0 0 false false) zA ZB ZB ZB ?_))
   exact Yx90
  | true=>
   cases opn with
   | false=>
    have VA:Hid (X=⟨ca,cc,cp,cm⟩):=by show _=_;rw [HX.o];rfl
    clear HX;go_wp2_with (first|(go_at_call 88;refine CP9.o.mono ?_;rintro e UH ⟨rfl,PE⟩;have Kw:=Zh (HN9.o.below PE);have kA:UH.heap[w.heap.size]?=some (.cells (Qf ca cc cp cm) 202 (0,0)):=Kw.o.st;have zA:=Kw.o.z;have aG:=Zh (CN.o _ Kw.o.Zg);clear PE)|(go_at_call 89;refine aG.o.mono ?_;rintro e JR ⟨rfl,zQ⟩;have iI:=Zh (Kw.o.below zQ);clear Kw kA zA zQ;obtain ⟨UH,rfl⟩:∃ W:World,W=JR:=⟨_,rfl⟩;have Kw:=iI;clear iI;have kA:UH.heap[w.heap.size]?=some (.cells (Qf ca cc cp cm) 202 (0,0)):=Kw.o.st;have zA:=Kw.o.z)|(with_reducible refine Zj 202 (.tmp 4) rfl ?_;refine Zf rfl 202 (.tmp 4) rfl w.heap.size rfl 202 (Qf ca cc cp cm) (0,0) _ kA Tryz.underlying202 rfl ZB ?_)|(with_reducible refine ZU 202 (.tmp 6) (.tmp 84) rfl ?_;refine ZV rfl 202 (.tmp 6) (.tmp 84) rfl rfl (w.heap.size+1) (Qf ca cc cp cm) rfl rfl 202 (Qf 0 0 false false) zA ZB ZB ZB ?_))
    exact Yx90
   | true=>
    have VA:Hid (X=⟨ca,ly,cp,cm⟩):=by show _=_;rw [HX.o];rfl
    clear HX;go_upto_region 12 with (first|(go_at_call 88;refine CP9.o.mono ?_;rintro e UH ⟨rfl,PE⟩;have Kw:=Zh (HN9.o.below PE);have kA:UH.heap[w.heap.size]?=some (.cells (Qf ca cc cp cm) 202 (0,0)):=Kw.o.st;have zA:=Kw.o.z;have aG:=Zh (CN.o _ Kw.o.Zg);clear PE)|(go_at_call 89;refine aG.o.mono ?_;rintro e JR ⟨rfl,zQ⟩;have iI:=Zh (Kw.o.below zQ);clear Kw kA zA zQ;obtain ⟨UH,rfl⟩:∃ W:World,W=JR:=⟨_,rfl⟩;have Kw:=iI;clear iI;have kA:UH.heap[w.heap.size]?=some (.cells (Qf ca cc cp cm) 202 (0,0)):=Kw.o.st;have zA:=Kw.o.z))
    have v0:UH.cell? ⟨V,0,none⟩=some (.pointer (some ⟨k,0,none⟩)):=Zc (Be.o _ Kw.o.Zg) 0 rfl;have b2:UH.cell? ⟨k,2,none⟩=some (.slice (some ⟨g9,o9,none⟩) L.length c9):=Zc (DA.o _ Kw.o.Zg) 2 rfl;have lD:=HLY.o _ Kw.o.Zg;have u1:=cell_of Kw.o.st 1;have f1:=ZO Kw.o.st 1;simp only [XL,SE,SD,R8] at u1;go_upto_region 13 with fail
    have iI:Hid (NX w (UH.setCell ⟨w,1,none⟩ (.int .i64 ly)) (Qa kd p sr q nm a1 n1 c1 a2 n2 c2) ⟨ca,ly,cp,cm⟩):=Kw.o.set 1 (.int .i64 ly) ⟨ca,ly,cp,cm⟩ rfl;clear Kw kA zA v0 b2 lD u1 f1;generalize UH.setCell ⟨w,1,none⟩ (.int .i64 ly)=JR at *
    have kA:JR.heap[w.heap.size]?=some (.cells (Qf ca ly cp cm) 202 (0,0)):=iI.o.st;have zA:=iI.o.z;go_wp2_with (first|(with_reducible refine Zj 202 (.tmp 4) rfl ?_;refine Zf rfl 202 (.tmp 4) rfl w.heap.size rfl 202 (Qf ca ly cp cm) (0,0) _ kA Tryz.underlying202 rfl ZB ?_)|(with_reducible refine ZU 202 (.tmp 6) (.tmp 84) rfl ?_;refine ZV rfl 202 (.tmp 6) (.tmp 84) rfl rfl (w.heap.size+1) (Qf ca ly cp cm) rfl rfl 202 (Qf 0 0 false false) zA ZB ZB ZB ?_))
    refine VD (v:= .agg (Qf ca ly cp cm)) ?_ rfl ?_
    ·exact results_cell_row Zr _ _ (w.heap.size+1) 202 (Qf ca ly cp cm) (0,0) _ Zr (setRow_heap _ _ _ _ _ _ zA) Tryz.underlying202 rfl ZB
    exact ⟨by rw [VA.o],Z3 iI.o.Zg (Ix _) _⟩
end
theorem wV {w:World} {a:Option Addr} {n c:Nat} {l:List Zu} (h:Row w 59 (.slice a n c) n (l.flatMap ZX)) {j:Nat} {z:Zu} (hz:l[j]?=some z):∃ g o,a=some ⟨g,o,none⟩ ∧
  w.cell? ⟨g,o+j*4,none⟩=some (.int .i64 z.peer)∧w.cell? ⟨g,o+j*4+1,none⟩=some (.int .i64 z.source)∧w.cell? ⟨g,o+j*4+2,none⟩=some (.int .i64 z.MR)∧w.cell? ⟨g,o+j*4+3,none⟩=some (.int .i64 z.fin):=by
 have hl:j<l.length:=(List.getElem?_eq_some_iff.1 hz).1;obtain ⟨g,o,e,h2⟩:=Su ZX 4 (fun _=>rfl) h Zo;exact ⟨g,o,e,h2 j z hz 0 Zo,h2 j z hz 1 Zo,h2 j z hz 2 Zo,h2 j z hz 3 Zo⟩
theorem vF (lv:Value) (LS:List Zu) (x:Zu) (w:World) (h:Row w 59 lv LS.length (LS.flatMap ZX)) :
  Calls Tryz.prog 142 #[lv,.agg (ZX x).toArray] w fun e w'=>(∃ i:Int,e = .returned (.int .i64 i)∧(0≤i↔x∈LS))∧Below w w w':=by
 obtain ⟨va,vc,rfl⟩:=Row.form h
 have zZ:LS.length≤maxLen:=by
  obtain ⟨a,c,e,h1,h2,_⟩:=h;injection e with _ _ e
  omega
 unfold maxLen at zZ;obtain ⟨p,s,b,f⟩:=x;have HR:=Zh h;clear h;dsimp only [ZX];have Vk:Hid (Below w w (w.alloc (.cells (Qc p s b f) 59))):=Z' w _;have Tx:Hid ((w.alloc (.cells (Qc p s b f) 59)).heap[w.heap.size]?=some (.cells (Qc p s b f) 59 (0,0))):=Z8 w _;go_enter Tryz.func142,Tryz.ntmps142;go_wp2_with fail
 generalize w.alloc (.cells (Qc p s b f) 59)=w0 at *
 go_loopw [8] (fun s8 w'=>∃ j:Nat,j≤LS.length∧s8 = .int .i64 (j:Int)∧Below w w w'∧w'.heap[w.heap.size]?=some (.cells (Qc p s b f) 59 (0,0))∧Hid (∀ i,i<j→LS[i]?≠some ⟨p,s,b,f⟩)) (fun s8 _=>LS.length-(intOf s8).toNat)
 case atStart=>exact ⟨0,Zo,rfl,Vk.o,Tx.o,fun i hi=>by omega⟩
 case round=>
  obtain ⟨j,hj,rfl,VX,hz,HNO⟩:=hrel;clear Vk Tx;have HB:=Zh VX;have HZ:=Zh hz;by_cases RV:j<LS.length
  ·have hy:LS[j]?=some LS[j]:=Vb RV;obtain ⟨g,o,e,y0,y1,y2,y3⟩:=wV (HR.o.below VX) hy;cases e;have z0:wr.cell? ⟨w,0,none⟩=some (.int .i64 p):=Zc hz 0 rfl;have z1:wr.cell? ⟨w,1,none⟩=some (.int .i64 s):=Zc hz 1 rfl;have z2:wr.cell? ⟨w,2,none⟩=some (.int .i64 b):=Zc hz 2 rfl;have z3:wr.cell? ⟨w,3,none⟩=some (.int .i64 f):=Zc hz 3 rfl;have zW:(j:Int)<(LS.length:Int):=OP.2 RV;generalize hq:LS[j]=q at *
   have HY:=Zh hy;clear hy hq VX hz;obtain ⟨p',s',b',f'⟩:=q;dsimp only at y0 y1 y2 y3;by_cases he:(⟨p,s,b,f⟩:Zu)=⟨p',s',b',f'⟩
   ·cases he;go_wp2_with fail
    go_quiet (fail)
    have X8:=Zh (below_drewN HB.o nq);go_wp2_with fail
    go_ret;exact ⟨⟨(j:Int),rfl,⟨fun _=>List.mem_of_getElem? HY.o,fun _=>by omega⟩⟩,X8.o⟩
   ·have qw:Hid (∀ i,i<j+1→LS[i]?≠some ⟨p,s,b,f⟩):=fun i hi hc=>by
     by_cases h:i=j
     ·rw [h,HY.o] at hc;exact he (Option.some.inj hc).symm
     ·exact HNO.o i Zo hc
    by_cases h1:p=p'
    rotate_left
    ·have f1:(p == p')=false:=by rw [WR];exact h1
     exact jo
    subst h1;by_cases h2:s=s'
    rotate_left
    ·have f1:(s == s')=false:=by rw [WR];exact h2
     exact jo
    subst h2;by_cases h3:b=b'
    rotate_left
    ·have f1:(b == b')=false:=by rw [WR];exact h3
     exact jo
    subst h3;have h4:f≠f':=fun h=>he (by rw [h])
    have f1:(f == f')=false:=by rw [WR];exact h4
    exact jo
  ·have Mc:j=LS.length:=by omega
   have qw:Hid ((⟨p,s,b,f⟩:Zu) ∉ LS):=fun hm=>by
    obtain ⟨i,hi,hc⟩:=List.mem_iff_getElem.1 hm;exact HNO.o i Zo (by rw [Vb hi,hc])
   clear VX hz;go_wp2_with fail
   go_ret;exact ⟨⟨-1,rfl,⟨fun h=>absurd h Zd,fun h=>absurd h qw.o⟩⟩,HB.o⟩
theorem Mt (lv:Value) (LS:List Zu) (x:Zu) (w:World) (h:Row w 59 lv LS.length (LS.flatMap ZX)) :
  Calls Tryz.prog 113 #[lv,.agg (ZX x).toArray] w fun e w'=>e = .returned (.bool (decide (x∈LS)))∧Below w w w':=by
 have Vk:Hid (Below w w (w.alloc (.cells (ZX x).toArray 59))):=Z' w _;have CI:=Zh (vF lv LS x _ (Row.below h Vk.o));have HX:Hid (∀ i:Int,(0≤i↔x∈LS)→decide (0≤i)=decide (x∈LS)):=fun i hi=>by rw [Bool.eq_iff_iff,Pz,Pz];exact hi
 generalize decide (x∈LS)=X at *
 generalize (x∈LS)=M at *
 clear h;obtain ⟨p,s,b,f⟩:=x;dsimp only [ZX] at CI Vk ⊢;go_enter Tryz.func113,Tryz.ntmps113;go_wp2_with (go_at_call 142;refine CI.o.mono ?_;rintro e w2 ⟨⟨i,rfl,hi⟩,Y7⟩;have X8:=Zh (Vk.o.trans (Y7.mono Vk.o.size));have HI:=Zh (HX.o i hi);clear hi Y7)
 go_ret;exact ⟨by rw [←HI.o];rfl,X8.o⟩
end Go.Proofs.By
namespace Go.Proofs.Heap
open Go Go.RowKit
section
variable {P:Program}
theorem pX {w:World} (t ty:TypeId) (base:Nat) {e:TypeId} {size bytes:Nat} (E:Elem P t e size bytes) (v:Value) (n:Nat) (xs:List Value) (YH:w.ownsRow base e size v n xs)
  (b m c:Nat) (news:List Value) (ZY:Row w e (.slice (some ⟨b,0,none⟩) m c) m news) (hl:news.length=m*size) (h1:∀ u∈news,u.oneCell'=true) (hm:0<m)
  (Ur:(n+m)*bytes≤140737488355328) (nT:n+m≤9223372036854775807) (R_:base≤w.heap.size) :
  ∃ v' w',(Builtin.append_ #[t,t] ty #[v,.slice (some ⟨b,0,none⟩) m c]).run P w = .ok v' w'∧w'.ownsRow base e size v' (n+m) (xs++news)∧w.grownBy w' v.ownBlock ∧
   ∀ i,v'.ownBlock=some i→v.ownBlock=some i∨i=w.heap.size:=by
 obtain ⟨v',w',hr,h2,h3⟩:=vd (P:=P) t ty base E v n xs YH _ m news ZY hl h1 Ur nT R_;refine ⟨v',w',hr,h2,h3,?_⟩;obtain ⟨z,Uz,lH⟩:=E.info;obtain ⟨i,hi,hz,Sg,oh⟩:=info_parts Uz;subst Sg;subst oh
 have oG:∀ j u,news[j]?=some u→w.cell? ((⟨b,0,none⟩:Addr).add j)=some u:=by
  obtain ⟨ad,cap,hv,_,_,_,hr⟩:=ZY;injection hv with hv _ _
  subst hv;intro j u hu;rcases hr with hr|⟨b',off,c',fr,NS,hb,hc⟩
  ·subst hr;simp at hu
  ·cases NS;have hj:j<news.length:=(List.getElem?_eq_some_iff.1 hu).1;have:=hc j hj;have Nk:(⟨b,0,none⟩:Addr).add j=⟨b,0+j,none⟩:=by unfold Addr.add;split <;> simp_all
   rw [Nk];simp only [World.cell?,hb];simpa [hu] using this
 have hl2:∀ k,(Value.slice (some ⟨w,0,none⟩) (n+m) k).ownBlock=some w.heap.size:=fun _=>rfl
 rcases YH.2 with ⟨rfl,rfl⟩|⟨g,cap,cur,rfl,hbg,hg,hnc,wq,Tn,htake⟩
 ·rw [QD] at Ur;have M0:=run_append_nil (P:=P) w t ty e i z E.ht hi hz ⟨b,0,none⟩ m c news hl oG hm Zo Zo;rw [M0] at hr;injection hr with e1 _
  subst e1;intro k hk;exact Wh (Option.some.inj hk).symm
 ·by_cases Xp:n+m≤cap
  ·have hfit:n*i.size+news.length≤cur.size:=by rw [hl,Tn,←Nat.add_mul];exact Nat.mul_le_mul_right _ Xp
   have M0:=run_append_room (P:=P) w t ty e i E.ht hi g n cap cur hg ⟨b,0,none⟩ m c news hl oG h1 Xp hfit;rw [M0] at hr;injection hr with e1 _
   subst e1;intro k hk;exact Ws hk
  ·have holds:∀ j u,xs[j]?=some u→w.cell? ((⟨g,0,none⟩:Addr).add j)=some u:=YH.cells (g:=g) rfl;have M0:=run_append_grow (P:=P) w t ty e i z E.ht hi hz ⟨g,0,none⟩ n cap xs YH.1 holds ⟨b,0,none⟩ m c news hl oG Zo Zo (growslice_fits Zo Ur);rw [M0] at hr;injection hr with e1 _
   subst e1;intro k hk;exact Wh (Option.some.inj hk).symm
theorem Xe {ops:Array Oper} {o:Oper} {a:Act} {w:World} {K:Act→World→Prop} {Q:Exit→Act→World→Prop} {E':Prop} (Mb:o.guard=none) (s x:Operand) (t:TypeId)
  (ho:o.op = .call {callee:= .builtin .append,args:=#[s,x],argTypes:=#[t,t]})
  (base:Nat) {e:TypeId} {size bytes:Nat} (E:Elem P t e size bytes)
  (v:Value) (n:Nat) (xs:List Value) (hs:a.eval s=v) (YH:w.ownsRow base e size v n xs)
  (b m c:Nat) (news:List Value) (hx:a.eval x = .slice (some ⟨b,0,none⟩) m c) (ZY:Row w e (.slice (some ⟨b,0,none⟩) m c) m news) (hl:news.length=m*size) (h1:∀ u∈news,u.oneCell'=true) (hm:0<m)
  (Ur:(n+m)*bytes≤140737488355328) (nT:n+m≤9223372036854775807) (R_:base≤w.heap.size)
  (h:∀ v' w',Hid (w'.ownsRow base e size v' (n+m) (xs++news))→Hid (w.grownBy w' v.ownBlock)→Hid (∀ i,v'.ownBlock=some i→v.ownBlock=some i∨i=w.heap.size)→K (a.put o.dst v') w') :
  if Region.wanted o (yielded ops a.tmps)=true then Oper.wp P o a w K Q else E':=by
 have hw:Region.wanted o (yielded ops a.tmps)=true:=by simp [Region.wanted,Mb]
 rw [ZR hw];obtain ⟨v',w',Co,h2,h3,h4⟩:=pX (P:=P) t o.type base E v n xs YH b m c news ZY hl h1 hm Ur nT R_;unfold Oper.wp;simp [execOp,ho,resolve,invoke,builtin,hs,hx,Co,Result.andThen];exact h v' w' h2 h3 h4
theorem Ym {ops:Array Oper} {o:Oper} {a:Act} {w:World} {K:Act→World→Prop} {Q:Exit→Act→World→Prop} {E':Prop} (Mb:o.guard=none) {t e:TypeId} {bytes:Nat} (E:Elem P t e 1 bytes) (x:Operand) (ho:o.op = .buildSlice t 1 #[(0,x)])
  (v:Value) (hx:a.eval x=v) (hv:v.cells=#[v])
  (h:K (a.put o.dst (.slice (some ⟨w,0,none⟩) 1 1)) (w.alloc (.cells #[v] e))):if Region.wanted o (yielded ops a.tmps)=true then Oper.wp P o a w K Q else E':=by
 exact Yx59
end
end Go.Proofs.Heap
