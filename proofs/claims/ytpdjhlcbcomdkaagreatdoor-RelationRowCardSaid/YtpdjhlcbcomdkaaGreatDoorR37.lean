/- Part of a proof. -/
import Derived.Test.YtpdjhlcbcomdkaaGreatDoorR36
set_option linter.unusedVariables false
set_option linter.unusedSimpArgs false
set_option maxRecDepth 100000
set_option maxHeartbeats 16000000
open Go Go.Q Go.Qr
namespace Go.Proofs.By
open Go.RowKit Go.Proofs.Heap Go.Proofs
open Go.Proofs.Rm (ZL ZN WH Inv V8 Room SA M6 Re u_ Wm YO Y_ of below_drewN)
open Go.Proofs.NM (Xz)
open Go.Proofs.Mem
theorem VU {P:Program} {fn:Func} {p:Tmp} {ty:TypeId} (h:fn.results=#[.cell p ty]) (tmps:Array Value) (w:World) (g:Nat) (t:TypeId) (cs:Array Value) (fr:Nat × Nat) (d:TypeDesc)
  (hp:tmps.getD p undef = .pointer (some ⟨g,0,none⟩)) (hg:w.heap[g]?=some (.cells cs t fr))
  (hu:P.underlying ty=some d) (hd:(match d with | .struct _ | .array _ _=>true|_=>false)=true) (hi:(P.info? ty).map (·.size)=some cs.size) :
  (results fn tmps).run P w = .ok (.agg cs) w:=by
 exact Yt6
theorem kQ {b:List UInt8} (h:(XN b).2=0):(XN b).1 ≠ .none:=by
 unfold XN at h ⊢;split
 ·rename_i hx;rw [ZR hx] at h;cases h
 rename_i h1
 rw [Z4 h1] at h;split
 ·rename_i hx;rw [ZR hx] at h;cases h
 rename_i h2
 rw [Z4 h2] at h;split
 ·rename_i h3
  rw [ZR h3] at h;split
  ·rename_i hx;rw [ZR hx] at h;exact absurd h hx
  ·exact fun h=>by cases h
 ·rename_i h3
  rw [Z4 h3] at h;split
  ·rename_i hx;rw [ZR hx] at h;exact absurd h hx
  ·rename_i hx
   rw [Z4 hx] at h;split
   ·rename_i hy;rw [ZR hy] at h;exact absurd h hy
   ·exact fun h=>by cases h
def Ue (k b:Nat) (oa:Option Addr) (n oc:Nat) (av ev lv:Value) (c:OJ) (X:(Taken × Room) × Int) (w:World) (e:Ending) (w':World):Prop:=
 e = .returned (.agg (Jt X.1.1.XC))∧w'.heap[k]?=some (.cells (Qx oa n oc av ev lv (c.add X.1.1.XC.kind X.1.1.unknown).bad (c.add X.1.1.XC.kind X.1.1.unknown).XB (c.add X.1.1.XC.kind X.1.1.unknown).unknown (c.add X.1.1.XC.kind X.1.1.unknown).refused 0 0 0 0 (some ⟨b,0,none⟩)) 44 (0,0))∧(∃ T',ZL w' b T'∧WH T' X.1.2)∧Fr w (fun j=>j=k∨j=b) w w'
section
variable {k b:Nat} {oa:Option Addr} {n oc:Nat} {av ev lv:Value} {c:OJ} {X:(Taken × Room) × Int} {w:World}
theorem Ue.fin {w8:World} {T':ZN} {t:Taken} {R':Room} {ep' n0 n1 n2 n3:Int} (hX:X=((t,R'),ep')) (hc:c.add t.XC.kind t.unknown=⟨n0,n1,n2,n3⟩) (hk:w8.heap[k]?=some (.cells (Qx oa n oc av ev lv n0 n1 n2 n3 0 0 0 0 (some ⟨b,0,none⟩)) 44 (0,0))) (hr:ZL w8 b T') (hs:WH T' R') (hf:Fr w (fun j=>j=k∨j=b) w w8) (VK:k<w.heap.size)
  {cs:Array Value} {f:Nat × Nat} (hy:w8.heap[w.heap.size+1]?=some (.cells cs 35 f)):Ue k b oa n oc av ev lv c X w (.returned (.agg (Jt t.XC))) (w8.setRow (w.heap.size+1) (Jt t.XC)):=by
 subst hX;unfold Ue;dsimp only;rw [hc];have cR:Fr w8 (· = w.heap.size+1) w8 (w8.setRow (w.heap.size+1) (Jt t.XC)):=Tq _ _ _;exact ⟨rfl,(setRow_other _ _ _ _ Zo).trans hk,⟨T',Ul hr cR (UY hy Zd),hs⟩,hf.trans ⟨cR.os,cR.tape,cR.output,cR.size,fun j hj hn=>setRow_other _ _ _ _ Zo⟩⟩
end
theorem rT (k b:Nat) (oa:Option Addr) (n oc:Nat) (av ev lv:Value) (c:OJ) (T:ZN) (R:Room) (ep:Int) (o:Rm.Op) (sa ba:Option Addr) (sc bl bc:Nat) (bs:List UInt8) (sv:Value) (w:World)
  (O7:w.heap[k]?=some (.cells (Qx oa n oc av ev lv c.bad c.XB c.unknown c.refused 0 0 0 0 (some ⟨b,0,none⟩)) 44 (0,0))) (hR:ZL w b T) (hs:WH T R) (hI:Inv R) (hT:Xz w) (UT:o.name.length<9223372036854775807) (Mz:XR w (.slice sa o.ZK.length sc) o.ZK.length (YO o.ZK)) (h0:0≤ep) (h9:ep<1000000000) (hc:c.Below 1000000000) (wF:o.kind≠1) :
  Calls Tryz.prog 42 (Q4 (some ⟨k,0,none⟩) (Jo o sa o.ZK.length sc ba bl bc) ep) w (Ue k b oa n oc av ev lv c (take R ep o bs sv) w):=by
 have hX:take R ep o bs sv=if (Wm R o sv).2≠0 then ((Yb 6 (Wm R o sv).2,R),ep) else ((Ub (ep+1) [] (Wm R o sv).1.1 0,(Wm R o sv).1.2),ep+1):=by unfold take;rw [Z4 wF]
 have HX:=Zh hX;have HDE:=Zh (fun (h:(Wm R o sv).2≠0)=>uw h);have VK:=ZW O7;have W8:=hR.lt
 have lC:k≠b:=fun e=>by
  obtain ⟨_,_,_,h,_⟩:=hR.Vw;rw [←e,O7] at h;injection h with h
  injection h with _ h
  exact absurd h Zd
 obtain ⟨⟨-,hc0⟩,⟨-,j0⟩,⟨-,Bg⟩,⟨hr0,lu⟩⟩:=hc;obtain ⟨kd,p,s,q,nm,ss⟩:=o;dsimp only at UT Mz wF ⊢;have e1:(kd != 1)=true:=by rw [RQ];exact wF
 obtain ⟨y0,y1,TR⟩:=V5 w (Qa kd p s q (str nm) sa ss.length sc ba bl bc) (Qc 0 0 0 0) 32 35;have Vk:Hid (Below w w ((w.alloc (.cells (Qa kd p s q (str nm) sa ss.length sc ba bl bc) 32)).alloc (.cells (Qc 0 0 0 0) 35))):=ZF (Z' w _) (Zw _) _;have CD:=Zh (u_ b T R ⟨kd,p,s,q,nm,ss⟩ sv sa ba sc bl bc ((w.alloc (.cells (Qa kd p s q (str nm) sa ss.length sc ba bl bc) 32)).alloc (.cells (Qc 0 0 0 0) 35)).drew (hR.below Vk.o.drew) hs hI (Utf8Tabs_below hT Vk.o.drew) UT (Mz.below Vk.o.drew));generalize take R ep ⟨kd,p,s,q,nm,ss⟩ bs sv=X at *
 generalize Wm R ⟨kd,p,s,q,nm,ss⟩ sv=D at *
 obtain ⟨⟨D1,D2⟩,er⟩:=D;dsimp only at CD HX HDE;clear hX Mz hT hR hI;go_enter Tryz.func42,Tryz.ntmps42;go_upto_region 2 with fail
 have Fk:=Zh y1;have gN:=(Vk.o.block _ VK).trans O7;have HK:=Zh gN;have HY:=Zh y0;have LH:=Zh y1;have Ht:=Vk;have hszX:=TR;clear y0 y1 gN;generalize ((w.alloc (.cells (Qa kd p s q (str nm) sa ss.length sc ba bl bc) 32)).alloc (.cells (Qc 0 0 0 0) 35))=w1 at *
 have Zz:Hid (∀ w',Below w1 w1 w'→w'.cell? ⟨k,12,none⟩=some (.pointer (some ⟨b,0,none⟩))∧w'.heap[w.heap.size]?=some (.cells (Qa kd p s q (str nm) sa ss.length sc ba bl bc) 32 (0,0))):=fun w' h=>
  ⟨by rw [cell_of ((h.block _ (ZW HK.o)).trans HK.o) 12];rfl,(h.block _ (ZW HY.o)).trans HY.o⟩
 clear Fk;refine SX ?_;refine Z_.Zy (d:=5) (S:=(fun w'=>w'.cell? ⟨k,12,none⟩=some (.pointer (some ⟨b,0,none⟩))∧w'.heap[w.heap.size]?=some (.cells (Qa kd p s q (str nm) sa ss.length sc ba bl bc) 32 (0,0)))) Zk ?_ (fun Ye=>?_)
 ·(try dsimp only)
  exact Zz.o _ (YJ _ _).drew
 refine YP 0 (h:=YP 1 (h:=YP 2 (h:=YK 3 (h:=?_))));refine Z_.tk 4 ?_ rfl ?_ <| ?_
 rotate_left
 ·intro wS Uq;(try dsimp only at Uq)
  refine Vf 32 (.tmp 4) ?_ w.heap.size ?_ 32 (Qa kd p s q (str nm) sa ss.length sc ba bl bc) (0,0) _ Uq.2 Tryz.underlying32 rfl Zk;all_goals rfl
 try simp only [Z_.pt]
 refine YR 5 (h:=fun K hK=>?_);go_simp;refine CD.o.mono ?_;rintro e w2 ⟨⟨tv,rfl,S3⟩,⟨T2,M0,H9⟩,wu⟩;obtain ⟨ta,tc,oY,-⟩:=id S3;subst oY;have ue:=Zh M0;have QC:=Zh H9;have yN:=Zh wu;clear S3 M0 H9 wu;go_wp2_with fail
 refine Z_.Yk hK _ _ Zk ?_;clear hK K;try simp only [Z_.pt]
 refine YP 6 (h:=YP 7 (h:=YP 8 (h:=YP 9 (h:=YP 10 (h:=?_)))));refine Z_.YC Zk ?_ _;refine RA ?_;clear Zz CD;have h_:w1.heap.size≤w2.heap.size:=PO (YJ w1.heap.size w1).drew.size yN.o.size;have HF3:Hid (Fr w1 (· = b) w1 w2):=(Fr.Z7 _ (YJ w1.heap.size w1).drew).trans (yN.o.mono (YJ w1.heap.size w1).drew.size (fun _ _ h=>h));have qp:Hid (Fr w (fun j=>j=k∨j=b) w w2):=(Fr.Z7 _ Vk.o).trans (HF3.o.mono Vk.o.size (fun _ _ h=>Wh h));have k2:=(HF3.o.block k (ZW HK.o) lC).trans HK.o;have y2:=(HF3.o.block (w.heap.size+1) (ZW LH.o) Zo).trans LH.o;clear yN HF3 HK HY LH;by_cases RU:er=0
 rotate_left
 ·have bl:(er != 0)=true:=by rw [RQ];exact RU
  have hX:X=((Yb 6 er,R),ep):=by rw [HX.o];exact ZR RU
  have cD:D2=R:=HDE.o RU;subst cD;have q7:w2.cell? ⟨k,7,none⟩=some (.int .i64 c.refused):=Zc k2 7 rfl;have f7:w2.frozen? ⟨k,7,none⟩=false:=ZO k2 7;have se:=Zh hX;have jW:=Zh (Ul ue.o (Fr.setAt (Fr.refl w2.heap.size (· = k) w2) 7 (.int .i64 (c.refused+1))) (UY k2 Zd));have nV:=Zh (VH k2 7 (.int .i64 (c.refused+1)));have jP:=Zh (qp.o.setCell (p:=⟨k,7,none⟩) (Wh (Ws rfl)) (.int .i64 (c.refused+1)));have nY:=Zh ((MH w2 ⟨k,7,none⟩ (.int .i64 (c.refused+1)) (w.heap.size+1) (by show _≠k;omega)).trans y2);clear HX HDE hX k2 y2 qp ue;go_upto_region 5 with fail
  generalize w2.setCell ⟨k,7,none⟩ (.int .i64 (c.refused+1))=w8 at *
  have y1:=nY.o;have kb:=nV.o;clear q7 f7;go_wp2_with (first|(with_reducible refine ZU 35 (.tmp 6) (.tmp 38) rfl ?_;refine Zs y1 ?_))
  refine VD (v:= .agg (Qc 6 0 0 er)) ?_ rfl ?_
  ·exact VU (p:=6) Zr _ _ (w.heap.size+1) 35 (Qc 6 0 0 er) (0,0) _ Zr (setRow_heap _ _ _ _ _ _ y1) Tryz.underlying35 rfl Zk
  exact Ue.fin (T':=_) se.o (by simp [OJ.add,Yb,UB]) kb jW.o QC.o jP.o VK y1
 subst RU;have hX:X=((Ub (ep+1) [] D1 0,D2),ep+1):=by rw [HX.o];exact Z4 (fun h=>h rfl)
 have se:=Zh hX;have y1:=y2;have kb:=k2;clear HX HDE hX y2 k2;go_wp2_with (first|(with_reducible refine ZU 35 (.tmp 6) (.tmp 41) rfl ?_;refine Zs y1 ?_))
 refine VD (v:= .agg (Qc 2 0 (ep+1) 0)) ?_ rfl ?_
 ·exact VU (p:=6) Zr _ _ (w.heap.size+1) 35 (Qc 2 0 (ep+1) 0) (0,0) _ Zr (setRow_heap _ _ _ _ _ _ y1) Tryz.underlying35 rfl Zk
 exact Ue.fin (T':=_) se.o (by simp [OJ.add,Ub,UB]) kb ue.o QC.o qp.o VK y1
theorem A0 {b:List UInt8} {l:List Ro} (h:(XN b).1 = .XX l):(∀ i∈l,S9 i)∧l.length≤8:=by
 have key:l=(Yj b).1:=by
  unfold XN at h;split at h
  ·cases h
  split at h
  ·cases h
  split at h
  ·split at h
   ·cases h
   ·injection h with h;exact h.symm
  ·split at h
   ·cases h
   ·split at h <;> cases h
 rw [key];exact Si b
theorem nN {E:Ev} (h:E ≠ .none):(E.kd=1∧E = .X5 E.pk E.ds)∨(E.kd=2∧E = .XX E.il):=by
 cases E with
 | none=>exact absurd rfl h
 | X5 p d=>exact Ws ⟨rfl,rfl⟩
 | XX l=>exact Wh ⟨rfl,rfl⟩
theorem ny (k b:Nat) (oa:Option Addr) (n oc:Nat) (av ev lv:Value) (c:OJ) (T:ZN) (R:Room) (ep:Int) (o:Rm.Op) (sa ba:Option Addr) (sl sc bl bc:Nat) (bs:List UInt8) (sv:Value) (w:World)
  (O7:w.heap[k]?=some (.cells (Qx oa n oc av ev lv c.bad c.XB c.unknown c.refused 0 0 0 0 (some ⟨b,0,none⟩)) 44 (0,0))) (hR:ZL w b T) (hs:WH T R) (hI:Inv R) (hS:V8 R) (sj:X6 w (.slice ba bl bc) bs) (h0:0≤ep) (h9:ep<1000000000) (hc:c.Below 1000000000) (wF:o.kind=1) :
  Calls Tryz.prog 42 (Q4 (some ⟨k,0,none⟩) (Jo o sa sl sc ba bl bc) ep) w (Ue k b oa n oc av ev lv c (take R ep o bs sv) w):=by
 have HX:Hid (take R ep o bs sv=if (XN bs).2≠0 then ((Yb 3 (XN bs).2,R),ep) else if !Y_ R o.peer then ((Yb 4 0,R),ep) else match (XN bs).1 with
  | .X5 p d=>((Vg R ep o.peer p d,R),ep)
  | .XX l=>((Ub (ep+1) l (ZC o.peer l R).1.1 (ZC o.peer l R).2,(ZC o.peer l R).1.2),ep+1)
  | .none=>((Ub (ep+1) [] [] 0,R),ep+1)):=by show _=_;unfold take;rw [ZR wF];rfl
 have iP:=Zh (fun (h:(XN bs).2=0)=>nN (kQ h));have HSI:=Zh (fun (l:List Ro) (h:(XN bs).1 = .XX l)=>A0 h);have VK:=ZW O7;have W8:=hR.lt
 have lC:k≠b:=fun e=>by
  obtain ⟨_,_,_,h,_⟩:=hR.Vw;rw [←e,O7] at h;injection h with h
  injection h with _ h
  exact absurd h Zd
 obtain ⟨⟨NT,hc0⟩,⟨sI,j0⟩,⟨hu0,Bg⟩,⟨hr0,lu⟩⟩:=hc;obtain ⟨kd,p,s,q,nm,ss⟩:=o;dsimp only at wF HX ⊢;subst wF;obtain ⟨y0,y1,TR⟩:=V5 w (Qa 1 p s q (str nm) sa sl sc ba bl bc) (Qc 0 0 0 0) 32 35;have Vk:Hid (Below w w ((w.alloc (.cells (Qa 1 p s q (str nm) sa sl sc ba bl bc) 32)).alloc (.cells (Qc 0 0 0 0) 35))):=ZF (Z' w _) (Zw _) _;have CS:=Zh (EF _ bs ((w.alloc (.cells (Qa 1 p s q (str nm) sa sl sc ba bl bc) 32)).alloc (.cells (Qc 0 0 0 0) 35)) (sj.below Vk.o));have HBLK:=Zh O7;have Vm:=Zh hR;have HJ:=Zh (hs.XF p);have MG:=Zh hs;have HII:=Zh hI;have Ky:=Zh hS;generalize take R ep ⟨1,p,s,q,nm,ss⟩ bs sv=X at *
 generalize XN bs=SB at *
 obtain ⟨E,er⟩:=SB;dsimp only at CS HX iP HSI;clear O7 sj hR hs hI hS;go_enter Tryz.func42,Tryz.ntmps42;go_upto_region 8 with (go_at_call 41;refine CS.o.mono ?_;rintro e w2 ⟨⟨a,rfl,Ma⟩,Y7⟩;obtain ⟨cv,xv,pv,iv,rfl,IB⟩:=zl.form Ma;obtain ⟨⟨ca,cc,FM⟩,⟨ea,ec,hxv⟩,⟨pa,pc,Md⟩⟩:=Vy.form IB.p;obtain ⟨ia,ic,zV⟩:=YI.form IB.i;dsimp only at FM hxv Md zV;subst FM;subst hxv;subst Md;subst zV;dsimp only [Xu,Sn,V_,List.cons_append,J2];have FV:=Zh IB.i;have X8:=Zh Y7;clear Ma IB Y7)
 clear CS;dsimp only at FV;generalize E.kd=K at *
 generalize E.pk=P at *
 generalize E.ds=d at *
 generalize E.il=IL at *
 have ye:=Z8 w2 (.cells (Jr K P ca cc ea ec pa pc d ia IL.length ic) 84);have Wc:Hid (Below w w (w2.alloc (.cells (Jr K P ca cc ea ec pa pc d ia IL.length ic) 84))):=ZF (Vk.o.trans (X8.o.mono Vk.o.size)) (Zw _) _;have dW:=((X8.o.trans ((Z' w2 (.cells (Jr K P ca cc ea ec pa pc d ia IL.length ic) 84)).mono X8.o.size)).block _ (ZW y0)).trans y0;have Fk:=((X8.o.trans ((Z' w2 (.cells (Jr K P ca cc ea ec pa pc d ia IL.length ic) 84)).mono X8.o.size)).block _ (ZW y1)).trans y1;have mb:=Zh (FV.o.below (Z' w2 (.cells (Jr K P ca cc ea ec pa pc d ia IL.length ic) 84)));have heb:w.heap.size+2≤w2.heap.size:=by have:=X8.o.size;rw [TR] at this;exact this
 clear y0 y1 FV TR;generalize (w2.alloc (.cells (Jr K P ca cc ea ec pa pc d ia IL.length ic) 84))=w3 at *
 generalize w2.heap.size=eb at *
 have kW:=(Wc.o.block _ VK).trans HBLK.o;have gw:=Zh (Vm.o.below Wc.o);have jQ:Hid (Fr w (fun j=>j=k∨j=b) w w3):=Fr.Z7 _ Wc.o;by_cases RU:er=0
 rotate_left
 ·have bl:(er != 0)=true:=by rw [RQ];exact RU
  have hX:X=((Yb 3 er,R),ep):=by rw [HX.o];exact ZR RU
  have se:=Zh hX;clear HX iP HSI hX X8 Vk mb ye dW;go_upto_region 9 with fail
  have q8:w3.cell? ⟨k,4,none⟩=some (.int .i64 c.bad):=Zc kW 4 rfl;have f8:w3.frozen? ⟨k,4,none⟩=false:=ZO kW 4;have jW:=Zh (Ul gw.o (Fr.setAt (Fr.refl w3.heap.size (· = k) w3) 4 (.int .i64 (c.bad+1))) (UY kW Zd));have nV:=Zh (VH kW 4 (.int .i64 (c.bad+1)));have jP:=Zh (jQ.o.setCell (p:=⟨k,4,none⟩) (Wh (Ws rfl)) (.int .i64 (c.bad+1)));have nY:=Zh ((MH w3 ⟨k,4,none⟩ (.int .i64 (c.bad+1)) (w.heap.size+1) (by show _≠k;omega)).trans Fk);clear kW Fk;go_upto_region 10 with fail
  generalize w3.setCell ⟨k,4,none⟩ (.int .i64 (c.bad+1))=w8 at *
  have y1:=nY.o;have kb:=nV.o;clear q8 f8;go_wp2_with (first|(with_reducible refine ZU 35 (.tmp 6) (.tmp 61) rfl ?_;refine Zs y1 ?_))
  refine VD (v:= .agg (Qc 3 0 0 er)) ?_ rfl ?_
  ·exact VU (p:=6) Zr _ _ (w.heap.size+1) 35 (Qc 3 0 0 er) (0,0) _ Zr (setRow_heap _ _ _ _ _ _ y1) Tryz.underlying35 rfl Zk
  exact bD
 subst RU;have DD:=Zh (iP.o rfl);rw [Z4 (fun h=>h rfl)] at HX;have HY0:=Zh dW;have LH:=Zh Fk;have HYE:=Zh ye;have kY:=Zh kW
 have Zz:Hid (∀ w',Below w3 w3 w'→w'.cell? ⟨k,12,none⟩=some (.pointer (some ⟨b,0,none⟩))∧w'.cell? ⟨w,1,none⟩=some (.int .i64 p)∧w'.cell? ⟨eb,5,none⟩=some (.int .u32 P.YE)∧w'.cell? ⟨eb,12,none⟩=some (.int .i64 d.ZH)):=fun w' h=>by
  have a1:=(h.block _ (ZW kY.o)).trans kY.o;have a2:=(h.block _ (ZW HY0.o)).trans HY0.o;have a3:=(h.block _ (ZW HYE.o)).trans HYE.o;exact ⟨Zc a1 12 rfl,Zc a2 1 rfl,Zc a3 5 rfl,Zc a3 12 rfl⟩
 have CP:=Zh (SA b T p w3.drew (gw.o.below (YJ _ _).drew));clear iP Vk X8 dW Fk ye kW;generalize T.XF p=tp at *
 go_upto_region 11 with fail
 refine SX ?_;refine Z_.Zy (d:=6) (S:=(fun w'=>w'.cell? ⟨k,12,none⟩=some (.pointer (some ⟨b,0,none⟩))∧w'.cell? ⟨w,1,none⟩=some (.int .i64 p)∧w'.cell? ⟨eb,5,none⟩=some (.int .u32 P.YE)∧w'.cell? ⟨eb,12,none⟩=some (.int .i64 d.ZH))) Zk ?_ (fun Ye=>?_)
 ·(try dsimp only)
  exact Zz.o _ (YJ _ _).drew
 refine YP 0 (h:=YP 1 (h:=YP 2 (h:=YP 4 (h:=YK 3 (h:=YK 5 (h:=?_))))));refine YR 6 (h:=fun K hK=>?_);go_simp;refine CP.o.mono ?_;rintro e w6 ⟨rfl,Ec⟩;have lT:Hid (Below w3 w3 w6):=(YJ w3.heap.size w3).drew.trans Ec;clear Ec;go_wp2_with fail
 refine Z_.Yk hK _ _ Zk ?_;clear hK K;try simp only [Z_.pt]
 refine YP 7 (h:=YP 8 (h:=?_));refine Z_.YC Zk ?_ _;refine RA ?_;clear CP;by_cases hj:0≤tp
 rotate_left
 ·have hjd:decide (tp<0)=true:=Wi Zo;have cY:Y_ R p=false:=by rw [KM];intro h;exact hj (HJ.o.2 h)
  have hX:X=((Yb 4 0,R),ep):=by rw [HX.o,cY];rfl
  have se:=Zh hX;have D_:=Zh (lT.o);have kW:=(D_.o.block _ (ZW kY.o)).trans kY.o;have Fk:=(D_.o.block _ (ZW LH.o)).trans LH.o;have zP:=Zh (gw.o.below D_.o);have Ce:Hid (Fr w (fun j=>j=k∨j=b) w w6):=jQ.o.trans (Fr.Z7 _ (D_.o.mono jQ.o.size));clear HX HJ hX cY Zz mb;go_upto_region 12 with fail
  have q8:w6.cell? ⟨k,5,none⟩=some (.int .i64 c.XB):=Zc kW 5 rfl;have f8:w6.frozen? ⟨k,5,none⟩=false:=ZO kW 5;have jW:=Zh (Ul zP.o (Fr.setAt (Fr.refl w6.heap.size (· = k) w6) 5 (.int .i64 (c.XB+1))) (UY kW Zd));have nV:=Zh (VH kW 5 (.int .i64 (c.XB+1)));have jP:=Zh (Ce.o.setCell (p:=⟨k,5,none⟩) (Wh (Ws rfl)) (.int .i64 (c.XB+1)));have nY:=Zh ((MH w6 ⟨k,5,none⟩ (.int .i64 (c.XB+1)) (w.heap.size+1) (by show _≠k;omega)).trans Fk);clear kW Fk;go_upto_region 13 with fail
  generalize w6.setCell ⟨k,5,none⟩ (.int .i64 (c.XB+1))=w8 at *
  have y1:=nY.o;have kb:=nV.o;clear q8 f8;go_wp2_with (first|(with_reducible refine ZU 35 (.tmp 6) (.tmp 80) rfl ?_;refine Zs y1 ?_))
  refine VD (v:= .agg (Qc 4 0 0 0)) ?_ rfl ?_
  ·exact VU (p:=6) Zr _ _ (w.heap.size+1) 35 (Qc 4 0 0 0) (0,0) _ Zr (setRow_heap _ _ _ _ _ _ y1) Tryz.underlying35 rfl Zk
  exact bD
 have hjd:decide (tp<0)=false:=WI Zo;have cY:Y_ R p=true:=HJ.o.1 hj;rw [cY] at HX;rw [Z4 Zi] at HX;have e6:=(lT.o.block _ (ZW HYE.o)).trans HYE.o;have k0:w6.cell? ⟨eb,0,none⟩=some (.int .i64 K):=Zc e6 0 rfl;clear HJ cY e6;rcases DD.o with ⟨rfl,hE⟩|⟨rfl,hE⟩
 rotate_left
 ·subst hE;dsimp only at HX;have PJ:=Zh (HSI.o IL rfl);have HID:=Zh (QV p IL R HII.o Ky.o PJ.o.1);have D_:=Zh lT.o;have kW:=(D_.o.block _ (ZW kY.o)).trans kY.o;have Fk:=(D_.o.block _ (ZW LH.o)).trans LH.o;have zP:=Zh (gw.o.below D_.o);have Ce:Hid (Fr w (fun j=>j=k∨j=b) w w6):=jQ.o.trans (Fr.Z7 _ (D_.o.mono jQ.o.size));have y0:=(D_.o.block _ (ZW HY0.o)).trans HY0.o;have ye:=(D_.o.block _ (ZW HYE.o)).trans HYE.o;have iE:=Zh kW;have HY16:=Zh Fk;have HY06:=Zh y0;have HYE6:=Zh ye;have mf:=Zh (mb.o.below D_.o);have hid1:=HID.o.2.2.2.1;have hid2:=HID.o.2.2.2.2;have hid3:=PJ.o.2;have hbe:b≠eb:=by omega
  have PM:Hid (∀ w',Fr w6 (· = b) w6 w'→w'.cell? ⟨k,6,none⟩=some (.int .i64 c.unknown)∧w'.cell? ⟨k,12,none⟩=some (.pointer (some ⟨b,0,none⟩))∧w'.cell? ⟨w,1,none⟩=some (.int .i64 p)∧w'.cell? ⟨eb,16,none⟩=some (.slice ia IL.length ic)):=fun w' h=>by
   have a1:=(h.block _ (ZW iE.o) lC).trans iE.o;have a2:=(h.block _ (ZW HY06.o) Zo).trans HY06.o;have a3:=(h.block _ (ZW HYE6.o) (fun e=>hbe e.symm)).trans HYE6.o;exact ⟨Zc a1 6 rfl,Zc a1 12 rfl,Zc a2 1 rfl,Zc a3 16 rfl⟩
  have CU:=Zh (A9 b T R p _ IL w6.drew (zP.o.below (YJ _ _).drew) MG.o HII.o Ky.o (mf.o.below (YJ _ _).drew) PJ.o.1 PJ.o.2);generalize ZC p IL R=ID at *
  obtain ⟨⟨D1,D2⟩,du⟩:=ID;dsimp only at HX CU hid1 hid2;clear kW Fk y0 ye Zz PJ HSI DD mf mb;go_upto_region 15 with fail
  refine SX ?_;refine Z_.Zy (d:=18) (S:=(fun w'=>w'.cell? ⟨k,6,none⟩=some (.int .i64 c.unknown)∧w'.cell? ⟨k,12,none⟩=some (.pointer (some ⟨b,0,none⟩))∧w'.cell? ⟨w,1,none⟩=some (.int .i64 p)∧w'.cell? ⟨eb,16,none⟩=some (.slice ia IL.length ic))) Zk ?_ (fun Ye=>?_)
  ·(try dsimp only)
   first|exact PM.o _ (Fr.Z7 _ (YJ _ _).drew)|exact PM.o _ kX.o
  refine YP 0 (h:=YP 1 (h:=YP 2 (h:=YP 3 (h:=YP 5 (h:=YP 6 (h:=YP 7 (h:=YP 9 (h:=YP 11 (h:=YQ 4 [] (h:=YQ 8 [] (h:=YQ 10 [] (h:=YQ 12 [] (h:=?_)))))))))))));refine YR 13 (h:=fun K hK=>?_);go_simp;refine CU.o.mono ?_;rintro e w7 ⟨rfl,⟨T7,ku,dK⟩,j5⟩;have HR7:=Zh ku;have bp:=Zh dK;have kX:Hid (Fr w6 (· = b) w6 w7):=(Fr.Z7 _ (YJ w6.heap.size w6).drew).trans (j5.mono (YJ w6.heap.size w6).drew.size (fun _ _ h=>h));have k7:=(kX.o.block _ (ZW iE.o) lC).trans iE.o;have f7:w7.frozen? ⟨k,6,none⟩=false:=ZO k7 6;have jW:=Zh (Ul ku (Fr.setAt (Fr.refl w7.heap.size (· = k) w7) 6 (.int .i64 (c.unknown+du))) (UY k7 Zd));have nV:=Zh (VH k7 6 (.int .i64 (c.unknown+du)));have jP:=Zh (Fr.setCell (p:=⟨k,6,none⟩) (Ce.o.trans (kX.o.mono Ce.o.size (fun _ _ h=>Wh h))) (Wh (Ws rfl)) (.int .i64 (c.unknown+du)));have nY:=Zh ((MH w7 ⟨k,6,none⟩ (.int .i64 (c.unknown+du)) (w.heap.size+1) (by show _≠k;omega)).trans ((kX.o.block _ (ZW HY16.o) Zo).trans HY16.o));clear ku dK j5 k7 CU;go_wp2_with fail
  refine Z_.Zb hK _ _ ?_ (fun XU=>?_)
  ·(try dsimp only)
   first|exact PM.o _ (Fr.Z7 _ (YJ _ _).drew)|exact PM.o _ kX.o
  clear hK K;try simp only [Z_.pt]
  refine YP 14 (h:=YP 15 (h:=YP 16 (h:=YP 17 (h:=?_))));refine YR 18 (h:=fun K hK=>?_);go_simp;refine Z_.Yk hK _ _ Zk ?_;clear hK K;try simp only [Z_.pt]
  refine Z_.YC Zk ?_ _;refine RA ?_;have hX:X=((Ub (ep+1) IL D1 du,D2),ep+1):=HX.o;have se:=Zh hX;clear HX hX PM;have y1:=nY.o;have kb:=nV.o;go_wp2_with (first|(with_reducible refine ZU 35 (.tmp 6) (.tmp 105) rfl ?_;refine Zs y1 ?_))
  refine VD (v:= .agg (Qc 2 0 (ep+1) 0)) ?_ rfl ?_
  ·exact VU (p:=6) Zr _ _ (w.heap.size+1) 35 (Qc 2 0 (ep+1) 0) (0,0) _ Zr (setRow_heap _ _ _ _ _ _ y1) Tryz.underlying35 rfl Zk
  exact Ue.fin (T':=_) se.o (by simp [OJ.add,Ub,UB]) kb jW.o bp.o jP.o VK y1
 subst hE;dsimp only at HX;have Mq:=Zh (EH MG.o HII.o p P.YE);have aX:Hid (Vg R ep p P d=if owned R p P.YE && decide ((T.of P.YE).2.1=d.ZH) then {UB with XC:=⟨1,(T.of P.YE).1,ep,0⟩,XW:=P,WJ:=d} else Yb 5 0):=by show _=_;rw [MG.o.of_eq HII.o];rfl
 generalize Vg R ep p P d=M at *
 have D_:=Zh lT.o;have PM:Hid (∀ w',Below w6 w6 w'→w'.cell? ⟨k,12,none⟩=some (.pointer (some ⟨b,0,none⟩))∧w'.cell? ⟨w,1,none⟩=some (.int .i64 p)∧w'.cell? ⟨eb,5,none⟩=some (.int .u32 P.YE)∧w'.cell? ⟨eb,12,none⟩=some (.int .i64 d.ZH)):=fun w' h=>Zz.o _ (D_.o.trans (h.mono D_.o.size))
 have CO:=Zh (M6 b T P.YE w6.drew (gw.o.below (D_.o.drew)));have lL:=Zh (fun (x:Int) (w':World) (h:Below w6 w6 w')=>Re b T x w' (gw.o.below (D_.o.trans (h.mono D_.o.size))));generalize owned R p P.YE=ow at *
 generalize T.of P.YE=O at *
 obtain ⟨O1,O2,O3⟩:=O;dsimp only at CO Mq aX;clear Zz mb HSI DD;go_upto_region 17 with fail
 refine SX ?_;refine Z_.Zy (d:=7) (S:=(fun w'=>w'.cell? ⟨k,12,none⟩=some (.pointer (some ⟨b,0,none⟩))∧w'.cell? ⟨w,1,none⟩=some (.int .i64 p)∧w'.cell? ⟨eb,5,none⟩=some (.int .u32 P.YE)∧w'.cell? ⟨eb,12,none⟩=some (.int .i64 d.ZH))) Zk ?_ (fun Ye=>?_)
 ·(try dsimp only)
  exact PM.o _ (YJ _ _).drew
 refine YP 0 (h:=YP 1 (h:=YP 2 (h:=YP 4 (h:=YP 5 (h:=YK 3 (h:=YK 6 (h:=?_)))))));refine YR 7 (h:=fun K hK=>?_);go_simp;refine CO.o.mono ?_;rintro e w7 ⟨rfl,Mw⟩;have Bq:Hid (Below w6 w6 w7):=(YJ w6.heap.size w6).drew.trans Mw;clear Mw;go_wp2_with fail
 refine Z_.Yk hK _ _ Zk ?_;clear hK K;try simp only [Z_.pt]
 refine YP 8 (h:=YP 9 (h:=YP 10 (h:=YP 11 (h:=YP 12 (h:=YP 13 (h:=YP 14 (h:=?_)))))));refine Z_.YC Zk ?_ _;refine RA ?_;clear CO;have hB7:=Zh (D_.o.trans (Bq.o.mono D_.o.size));have fg:Hid (X=((M,R),ep)):=HX.o;clear HX;go_upto_region 18 with fail
 by_cases lF:O3=true∧O2=d.ZH
 rotate_left
 ·have hM:M=Yb 5 0:=by
   rw [aX.o];refine Z4 fun h=>lF ?_
   rw [UR,Pz] at h;exact ⟨(Mq.o.2 h.1).1,h.2⟩
  have hX:X=((Yb 5 0,R),ep):=by rw [fg.o,hM]
  have se:=Zh hX;obtain ⟨z12,z1,z5,z4⟩:=PM.o _ Bq.o;clear fg aX Mq hM hX lL;have Tn:O3=false∨(O3=true∧O2≠d.ZH):=by cases O3 <;> simp at lF ⊢;exact lF
  clear lF;rcases Tn with rfl|⟨rfl,lF⟩
  case' inr=>have YY:(O2 != d.ZH)=true:=by rw [RQ];exact lF
  all_goals
   go_quiet (fail)
   have hB8:=Zh (below_drewN hB7.o nq);have kW:=(hB8.o.block _ (ZW kY.o)).trans kY.o;have Fk:=(hB8.o.block _ (ZW LH.o)).trans LH.o;have zP:=Zh (gw.o.below hB8.o);have Ce:Hid (Fr w (fun j=>j=k∨j=b) w (w7.drewN nq)):=jQ.o.trans (Fr.Z7 _ (hB8.o.mono jQ.o.size));clear PM z12 z1 z5 z4;generalize w7.drewN nq=w9 at *
   go_upto_region 19 with fail
   have q8:w9.cell? ⟨k,6,none⟩=some (.int .i64 c.unknown):=Zc kW 6 rfl;have f8:w9.frozen? ⟨k,6,none⟩=false:=ZO kW 6;have jW:=Zh (Ul zP.o (Fr.setAt (Fr.refl w9.heap.size (· = k) w9) 6 (.int .i64 (c.unknown+1))) (UY kW Zd));have nV:=Zh (VH kW 6 (.int .i64 (c.unknown+1)));have jP:=Zh (Ce.o.setCell (p:=⟨k,6,none⟩) (Wh (Ws rfl)) (.int .i64 (c.unknown+1)));have nY:=Zh ((MH w9 ⟨k,6,none⟩ (.int .i64 (c.unknown+1)) (w.heap.size+1) (by show _≠k;omega)).trans Fk);clear kW Fk;go_upto_region 20 with fail
   generalize w9.setCell ⟨k,6,none⟩ (.int .i64 (c.unknown+1))=w8 at *
   have y1:=nY.o;have kb:=nV.o;clear q8 f8;go_wp2_with (first|(with_reducible refine ZU 35 (.tmp 6) (.tmp 147) rfl ?_;refine Zs y1 ?_))
   refine VD (v:= .agg (Qc 5 0 0 0)) ?_ rfl ?_
   ·exact VU (p:=6) Zr _ _ (w.heap.size+1) 35 (Qc 5 0 0 0) (0,0) _ Zr (setRow_heap _ _ _ _ _ _ y1) Tryz.underlying35 rfl Zk
   exact Ue.fin (T':=_) se.o (by simp [OJ.add,Yb,UB]) kb jW.o MG.o jP.o VK y1
 obtain ⟨rfl,lF⟩:=lF;have YY:(O2 != d.ZH)=false:=by rw [lF,bne_self_eq_false]
 have CW:=Zh (lL.o O1 w7.drew (Bq.o.trans (YJ _ _).drew));generalize T.owner O1=tw at *
 clear lL;refine SX ?_;refine Z_.Zy (d:=19) (S:=(fun w'=>w'.cell? ⟨k,12,none⟩=some (.pointer (some ⟨b,0,none⟩))∧w'.cell? ⟨w,1,none⟩=some (.int .i64 p)∧w'.cell? ⟨eb,5,none⟩=some (.int .u32 P.YE)∧w'.cell? ⟨eb,12,none⟩=some (.int .i64 d.ZH))) Zk ?_ (fun Ye=>?_)
 ·(try dsimp only)
  first|exact PM.o _ (Bq.o.trans ((YJ w7.heap.size w7).drew.mono Bq.o.size))|exact PM.o _ (Bq.o.trans (HBG.o.mono Bq.o.size))
 refine YP 0 (h:=YP 1 (h:=YP 2 (h:=YP 3 (h:=YP 4 (h:=YP 5 (h:=YQ 6 [9,8,7] (h:=YP 7 (h:=YP 8 (h:=YP 9 (h:=YP 10 (h:=YP 11 (h:=YP 12 (h:=YP 14 (h:=YP 16 (h:=YQ 13 [18,15] (h:=YQ 17 [18] (h:=?_)))))))))))))))));refine YR 15 (h:=fun K hK=>?_);go_simp;refine CW.o.mono ?_;rintro e w9 ⟨rfl,qH⟩;have HBG:Hid (Below w7 w7 w9):=(YJ w7.heap.size w7).drew.trans qH;clear qH;go_wp2_with fail
 refine Z_.Zb hK _ _ ?_ (fun XU=>?_)
 ·(try dsimp only)
  first|exact PM.o _ (Bq.o.trans ((YJ w7.heap.size w7).drew.mono Bq.o.size))|exact PM.o _ (Bq.o.trans (HBG.o.mono Bq.o.size))
 clear hK K;try simp only [Z_.pt]
 refine YP 18 (h:=?_);refine YR 19 (h:=fun K hK=>?_);go_simp;refine Z_.Yk hK _ _ Zk ?_;clear hK K;try simp only [Z_.pt]
 refine Z_.YC Zk ?_ _;refine RA ?_;have hB9:=Zh (hB7.o.trans (HBG.o.mono hB7.o.size));have kW:=(hB9.o.block _ (ZW kY.o)).trans kY.o;have Fk:=(hB9.o.block _ (ZW LH.o)).trans LH.o;have zP:=Zh (gw.o.below hB9.o);have Ce:Hid (Fr w (fun j=>j=k∨j=b) w w9):=jQ.o.trans (Fr.Z7 _ (hB9.o.mono jQ.o.size));clear PM CW;by_cases htw:tw=p
 rotate_left
 ·have Y7:(tw != p)=true:=by rw [RQ];exact htw
  have hM:M=Yb 5 0:=by
   rw [aX.o];refine Z4 fun h=>htw ?_
   rw [UR,Pz] at h;exact (Mq.o.2 h.1).2
  have hX:X=((Yb 5 0,R),ep):=by rw [fg.o,hM]
  have se:=Zh hX;clear fg aX Mq hM hX;go_upto_region 19 with fail
  have q8:w9.cell? ⟨k,6,none⟩=some (.int .i64 c.unknown):=Zc kW 6 rfl;have f8:w9.frozen? ⟨k,6,none⟩=false:=ZO kW 6;have jW:=Zh (Ul zP.o (Fr.setAt (Fr.refl w9.heap.size (· = k) w9) 6 (.int .i64 (c.unknown+1))) (UY kW Zd));have nV:=Zh (VH kW 6 (.int .i64 (c.unknown+1)));have jP:=Zh (Ce.o.setCell (p:=⟨k,6,none⟩) (Wh (Ws rfl)) (.int .i64 (c.unknown+1)));have nY:=Zh ((MH w9 ⟨k,6,none⟩ (.int .i64 (c.unknown+1)) (w.heap.size+1) (by show _≠k;omega)).trans Fk);clear kW Fk;go_upto_region 20 with fail
  generalize w9.setCell ⟨k,6,none⟩ (.int .i64 (c.unknown+1))=w8 at *
  have y1:=nY.o;have kb:=nV.o;clear q8 f8;go_wp2_with (first|(with_reducible refine ZU 35 (.tmp 6) (.tmp 147) rfl ?_;refine Zs y1 ?_))
  refine VD (v:= .agg (Qc 5 0 0 0)) ?_ rfl ?_
  ·exact VU (p:=6) Zr _ _ (w.heap.size+1) 35 (Qc 5 0 0 0) (0,0) _ Zr (setRow_heap _ _ _ _ _ _ y1) Tryz.underlying35 rfl Zk
  exact bD
 have Y7:(tw != p)=false:=by rw [htw,bne_self_eq_false]
 have hX:X=(({UB with XC:=⟨1,O1,ep,0⟩,XW:=P,WJ:=d},R),ep):=by
  rw [fg.o,aX.o,Mq.o.1 ⟨by trivial,htw⟩,lF,Wi rfl];rfl
 have se:=Zh hX;have y1:=Fk;have kb:=kW;clear fg aX Mq hX;go_wp2_with (first|(with_reducible refine ZU 35 (.tmp 6) (.tmp 150) rfl ?_;refine Zs y1 ?_))
 refine VD (v:= .agg (Qc 1 O1 ep 0)) ?_ rfl ?_
 ·exact VU (p:=6) Zr _ _ (w.heap.size+1) 35 (Qc 1 O1 ep 0) (0,0) _ Zr (setRow_heap _ _ _ _ _ _ y1) Tryz.underlying35 rfl Zk
 exact Ue.fin (T':=_) se.o (by simp [OJ.add,UB]) kb zP.o MG.o Ce.o VK y1
end Go.Proofs.By
