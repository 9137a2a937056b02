/- Part of a proof. -/
import Derived.Test.YtpdjhlcbcomdkaaGreatDoorW32
set_option linter.unusedVariables false
set_option linter.unusedSimpArgs false
set_option maxRecDepth 100000
set_option maxHeartbeats 16000000
open Go Go.Q Go.Qr
namespace Go.Proofs.By
open Go.RowKit Go.Proofs.Heap Go.Proofs
open Go.Proofs.Rm (ZL ZN WL Inv Wa Room SI Ni Rv vG Wm YO Ze of below_drewN)
open Go.Proofs.Od (Xz)
open Go.Proofs.Mem
theorem V4 {P:Program} {fn:Func} {p:Tmp} {ty:TypeId} (h:fn.results=#[.cell p ty]) (tmps:Array Value) (w:World) (g:Nat) (t:TypeId) (cs:Array Value) (fr:Nat × Nat) (d:TypeDesc)
  (hp:tmps.getD p undef = .pointer (some ⟨g,0,none⟩)) (hg:w.heap[g]?=some (.cells cs t fr))
  (hu:P.underlying ty=some d) (hd:(match d with | .struct _ | .array _ _=>true|_=>false)=true) (hi:(P.info? ty).map (·.size)=some cs.size) :
  (results fn tmps).run P w = .ok (.agg cs) w:=by
 exact Yt6
theorem lQ {b:List UInt8} (h:(XJ b).2=0):(XJ b).1 ≠ .none:=by
 unfold XJ at h ⊢
 split
 ·rename_i hx;rw [ZQ hx] at h;cases h
 rename_i h1
 rw [Z4 h1] at h
 split
 ·rename_i hx;rw [ZQ hx] at h;cases h
 rename_i h2
 rw [Z4 h2] at h
 split
 ·rename_i h3
  rw [ZQ h3] at h
  split
  ·rename_i hx;rw [ZQ hx] at h;exact absurd h hx
  ·exact fun h=>by cases h
 ·rename_i h3
  rw [Z4 h3] at h
  split
  ·rename_i hx;rw [ZQ hx] at h;exact absurd h hx
  ·rename_i hx
   rw [Z4 hx] at h
   split
   ·rename_i hy;rw [ZQ hy] at h;exact absurd h hy
   ·exact fun h=>by cases h
def Un (k b:Nat) (oa:Option Addr) (n oc:Nat) (av ev lv:Value) (c:O7) (X:(Taken × Room) × Int) (w:World) (e:Ending) (w':World):Prop:=
 e = .returned (.agg (Jq X.1.1.XE))∧w'.heap[k]?=some (.cells (Qu oa n oc av ev lv (c.add X.1.1.XE.kind X.1.1.unknown).bad (c.add X.1.1.XE.kind X.1.1.unknown).XG (c.add X.1.1.XE.kind X.1.1.unknown).unknown (c.add X.1.1.XE.kind X.1.1.unknown).refused 0 0 0 0 (some ⟨b,0,none⟩)) 44 (0,0))∧(∃ T',ZL w' b T'∧WL T' X.1.2)∧Fr w (fun j=>j=k∨j=b) w w'
section
variable {k b:Nat} {oa:Option Addr} {n oc:Nat} {av ev lv:Value} {c:O7} {X:(Taken × Room) × Int} {w:World}
theorem Un.fin {w8:World} {T':ZN} {t:Taken} {R':Room} {aR n0 n1 n2 n3:Int} (hX:X=((t,R'),aR)) (hc:c.add t.XE.kind t.unknown=⟨n0,n1,n2,n3⟩) (hk:w8.heap[k]?=some (.cells (Qu oa n oc av ev lv n0 n1 n2 n3 0 0 0 0 (some ⟨b,0,none⟩)) 44 (0,0))) (hr:ZL w8 b T') (hs:WL T' R') (hf:Fr w (fun j=>j=k∨j=b) w w8) (VR:k<w.heap.size)
  {cs:Array Value} {f:Nat × Nat} (hy:w8.heap[w.heap.size+1]?=some (.cells cs 35 f)):Un k b oa n oc av ev lv c X w (.returned (.agg (Jq t.XE))) (w8.setRow (w.heap.size+1) (Jq t.XE)):=by
 subst hX
 unfold Un
 dsimp only
 rw [hc]
 have dS:Fr w8 (· = w.heap.size+1) w8 (w8.setRow (w.heap.size+1) (Jq t.XE)):=TD _ _ _
 exact ⟨rfl,(setRow_other _ _ _ _ Zo).trans hk,⟨T',Uu hr dS (U4 hy Zd),hs⟩,hf.trans ⟨dS.os,dS.tape,dS.output,dS.size,fun j hj hn=>setRow_other _ _ _ _ Zo⟩⟩
end
theorem sF (k b:Nat) (oa:Option Addr) (n oc:Nat) (av ev lv:Value) (c:O7) (T:ZN) (R:Room) (ep:Int) (o:Rm.Op) (sa ba:Option Addr) (sc bl bc:Nat) (bs:List UInt8) (sv:Value) (w:World)
  (Pn:w.heap[k]?=some (.cells (Qu oa n oc av ev lv c.bad c.XG c.unknown c.refused 0 0 0 0 (some ⟨b,0,none⟩)) 44 (0,0))) (hR:ZL w b T) (hs:WL T R) (hI:Inv R) (hT:Xz w) (U0:o.name.length<9223372036854775807) (Kn:XU w (.slice sa o.ZK.length sc) o.ZK.length (YO o.ZK)) (h0:0≤ep) (h9:ep<1000000000) (hc:c.Below 1000000000) (sY:o.kind≠1) :
  Calls Tryz.prog 42 (Q1 (some ⟨k,0,none⟩) (Jm o sa o.ZK.length sc ba bl bc) ep) w (Un k b oa n oc av ev lv c (take R ep o bs sv) w):=by
 have hX:take R ep o bs sv=if (Wm R o sv).2≠0 then ((Yf 6 (Wm R o sv).2,R),ep) else ((Ul (ep+1) [] (Wm R o sv).1.1 0,(Wm R o sv).1.2),ep+1):=by unfold take;rw [Z4 sY]
 have HX:=Zh hX
 have HDE:=Zh (fun (h:(Wm R o sv).2≠0)=>uO h)
 have VR:=ZV Pn
 have W9:=hR.lt
 have mj:k≠b:=fun e=>by
  obtain ⟨_,_,_,h,_⟩:=hR.VC
  rw [←e,Pn] at h
  injection h with h
  injection h with _ h
  exact absurd h Zd
 obtain ⟨⟨-,hc0⟩,⟨-,kP⟩,⟨-,Bx⟩,⟨hr0,mh⟩⟩:=hc
 obtain ⟨kd,p,s,q,nm,ss⟩:=o
 dsimp only at U0 Kn sY ⊢
 have e1:(kd != 1)=true:=by rw [R6];exact sY
 obtain ⟨y0,y1,T5⟩:=V9 w (Qa kd p s q (str nm) sa ss.length sc ba bl bc) (Qe 0 0 0 0) 32 35
 have Vp:Hid (Below w w ((w.alloc (.cells (Qa kd p s q (str nm) sa ss.length sc ba bl bc) 32)).alloc (.cells (Qe 0 0 0 0) 35))):=ZC (Z' w _) (Zw _) _
 have CD:=Zh (vG b T R ⟨kd,p,s,q,nm,ss⟩ sv sa ba sc bl bc ((w.alloc (.cells (Qa kd p s q (str nm) sa ss.length sc ba bl bc) 32)).alloc (.cells (Qe 0 0 0 0) 35)).drew (hR.below Vp.o.drew) hs hI (Utf8Tabs_below hT Vp.o.drew) U0 (Kn.below Vp.o.drew))
 generalize take R ep ⟨kd,p,s,q,nm,ss⟩ bs sv=X at *
 generalize Wm R ⟨kd,p,s,q,nm,ss⟩ sv=D at *
 obtain ⟨⟨D1,D2⟩,er⟩:=D
 dsimp only at CD HX HDE
 clear hX Kn hT hR hI
 go_enter Tryz.func42,Tryz.ntmps42
 go_upto_region 2 with fail
 have FD:=Zh y1
 have iE:=(Vp.o.block _ VR).trans Pn
 have HK:=Zh iE
 have HY:=Zh y0
 have L3:=Zh y1
 have M3:=Vp
 have hszX:=T5
 clear y0 y1 iE
 generalize ((w.alloc (.cells (Qa kd p s q (str nm) sa ss.length sc ba bl bc) 32)).alloc (.cells (Qe 0 0 0 0) 35))=w1 at *
 have Zz:Hid (∀ w',Below w1 w1 w'→w'.cell? ⟨k,12,none⟩=some (.pointer (some ⟨b,0,none⟩))∧w'.heap[w.heap.size]?=some (.cells (Qa kd p s q (str nm) sa ss.length sc ba bl bc) 32 (0,0))):=fun w' h=>
  ⟨by rw [cell_of ((h.block _ (ZV HK.o)).trans HK.o) 12];rfl,(h.block _ (ZV HY.o)).trans HY.o⟩
 clear FD
 refine Sd ?_
 refine Z_.Zu (d:=5) (S:=(fun w'=>w'.cell? ⟨k,12,none⟩=some (.pointer (some ⟨b,0,none⟩))∧w'.heap[w.heap.size]?=some (.cells (Qa kd p s q (str nm) sa ss.length sc ba bl bc) 32 (0,0)))) Zk ?_ (fun X_=>?_)
 ·(try dsimp only)
  exact Zz.o _ (YH _ _).drew
 refine YP 0 (h:=YP 1 (h:=YP 2 (h:=YK 3 (h:=?_))))
 refine Z_.tk 4 ?_ rfl ?_ <| ?_
 rotate_left
 ·intro wS TE;(try dsimp only at TE)
  refine TZ 32 (.tmp 4) ?_ w.heap.size ?_ 32 (Qa kd p s q (str nm) sa ss.length sc ba bl bc) (0,0) _ TE.2 Tryz.underlying32 rfl Zk
  all_goals rfl
 try simp only [Z_.pt]
 refine YR 5 (h:=fun K hK=>?_)
 go_simp
 refine CD.o.mono ?_
 rintro e w2 ⟨⟨tv,rfl,S8⟩,⟨T2,Nf,Im⟩,wT⟩
 obtain ⟨ta,tc,pO,-⟩:=id S8
 subst pO
 have uF:=Zh Nf
 have QO:=Zh Im
 have zn:=Zh wT
 clear S8 Nf Im wT
 go_wp2_with fail
 refine Z_.Ye hK _ _ Zk ?_
 clear hK K
 try simp only [Z_.pt]
 refine YP 6 (h:=YP 7 (h:=YP 8 (h:=YP 9 (h:=YP 10 (h:=?_)))))
 refine Z_.Yr Zk ?_ _
 refine QY ?_
 clear Zz CD
 have hsw:w1.heap.size≤w2.heap.size:=PW (YH w1.heap.size w1).drew.size zn.o.size
 have aq:Hid (Fr w1 (· = b) w1 w2):=(Fr.Z8 _ (YH w1.heap.size w1).drew).trans (zn.o.mono (YH w1.heap.size w1).drew.size (fun _ _ h=>h))
 have qV:Hid (Fr w (fun j=>j=k∨j=b) w w2):=(Fr.Z8 _ Vp.o).trans (aq.o.mono Vp.o.size (fun _ _ h=>Wi h))
 have k2:=(aq.o.block k (ZV HK.o) mj).trans HK.o
 have y2:=(aq.o.block (w.heap.size+1) (ZV L3.o) Zo).trans L3.o
 clear zn aq HK HY L3
 by_cases R9:er=0
 rotate_left
 ·have bl:(er != 0)=true:=by rw [R6];exact R9
  have hX:X=((Yf 6 er,R),ep):=by rw [HX.o];exact ZQ R9
  have dD:D2=R:=HDE.o R9
  subst dD
  have q7:w2.cell? ⟨k,7,none⟩=some (.int .i64 c.refused):=Zc k2 7 rfl
  have f7:w2.frozen? ⟨k,7,none⟩=false:=ZO k2 7
  have sP:=Zh hX
  have kJ:=Zh (Uu uF.o (Fr.setAt (Fr.refl w2.heap.size (· = k) w2) 7 (.int .i64 (c.refused+1))) (U4 k2 Zd))
  have oQ:=Zh (VM k2 7 (.int .i64 (c.refused+1)))
  have kC:=Zh (qV.o.setCell (p:=⟨k,7,none⟩) (Wi (Ww rfl)) (.int .i64 (c.refused+1)))
  have oW:=Zh ((MW w2 ⟨k,7,none⟩ (.int .i64 (c.refused+1)) (w.heap.size+1) (by show _≠k;omega)).trans y2)
  clear HX HDE hX k2 y2 qV uF
  go_upto_region 5 with fail
  generalize w2.setCell ⟨k,7,none⟩ (.int .i64 (c.refused+1))=w8 at *
  have y1:=oW.o
  have kb:=oQ.o
  clear q7 f7
  go_wp2_with (first|((with_reducible refine ZU 35 (.tmp 6) (.tmp 38) rfl ?_);refine Zs y1 ?_))
  refine VJ (v:= .agg (Qe 6 0 0 er)) ?_ rfl ?_
  ·exact V4 (p:=6) Zr _ _ (w.heap.size+1) 35 (Qe 6 0 0 er) (0,0) _ Zr (setRow_heap _ _ _ _ _ _ y1) Tryz.underlying35 rfl Zk
  exact Un.fin (T':=_) sP.o (by simp [O7.add,Yf,UJ]) kb kJ.o QO.o kC.o VR y1
 subst R9
 have hX:X=((Ul (ep+1) [] D1 0,D2),ep+1):=by rw [HX.o];exact Z4 (fun h=>h rfl)
 have sP:=Zh hX
 have y1:=y2
 have kb:=k2
 clear HX HDE hX y2 k2
 go_wp2_with (first|((with_reducible refine ZU 35 (.tmp 6) (.tmp 41) rfl ?_);refine Zs y1 ?_))
 refine VJ (v:= .agg (Qe 2 0 (ep+1) 0)) ?_ rfl ?_
 ·exact V4 (p:=6) Zr _ _ (w.heap.size+1) 35 (Qe 2 0 (ep+1) 0) (0,0) _ Zr (setRow_heap _ _ _ _ _ _ y1) Tryz.underlying35 rfl Zk
 exact Un.fin (T':=_) sP.o (by simp [O7.add,Ul,UJ]) kb uF.o QO.o qV.o VR y1
theorem Be {b:List UInt8} {l:List RF} (h:(XJ b).1 = .XV l):(∀ i∈l,Te i)∧l.length≤8:=by
 have key:l=(Ym b).1:=by
  unfold XJ at h
  split at h
  ·cases h
  split at h
  ·cases h
  split at h
  ·split at h
   ·cases h
   ·injection h with h;exact h.symm
  ·split at h
   ·cases h
   ·split at h <;> cases h
 rw [key];exact Ss b
theorem oI {E:Ev} (h:E ≠ .none):(E.kd=1∧E = .X7 E.pk E.ds)∨(E.kd=2∧E = .XV E.il):=by
 cases E with
 | none=>exact absurd rfl h
 | X7 p d=>exact Ww ⟨rfl,rfl⟩
 | XV l=>exact Wi ⟨rfl,rfl⟩
theorem n7 (k b:Nat) (oa:Option Addr) (n oc:Nat) (av ev lv:Value) (c:O7) (T:ZN) (R:Room) (ep:Int) (o:Rm.Op) (sa ba:Option Addr) (sl sc bl bc:Nat) (bs:List UInt8) (sv:Value) (w:World)
  (Pn:w.heap[k]?=some (.cells (Qu oa n oc av ev lv c.bad c.XG c.unknown c.refused 0 0 0 0 (some ⟨b,0,none⟩)) 44 (0,0))) (hR:ZL w b T) (hs:WL T R) (hI:Inv R) (hS:Wa R) (sU:X9 w (.slice ba bl bc) bs) (h0:0≤ep) (h9:ep<1000000000) (hc:c.Below 1000000000) (sY:o.kind=1) :
  Calls Tryz.prog 42 (Q1 (some ⟨k,0,none⟩) (Jm o sa sl sc ba bl bc) ep) w (Un k b oa n oc av ev lv c (take R ep o bs sv) w):=by
 have HX:Hid (take R ep o bs sv=if (XJ bs).2≠0 then ((Yf 3 (XJ bs).2,R),ep) else if !Ze R o.peer then ((Yf 4 0,R),ep) else match (XJ bs).1 with
  | .X7 p d=>((Vd R ep o.peer p d,R),ep)
  | .XV l=>((Ul (ep+1) l (ZE o.peer l R).1.1 (ZE o.peer l R).2,(ZE o.peer l R).1.2),ep+1)
  | .none=>((Ul (ep+1) [] [] 0,R),ep+1)):=by show _=_;unfold take;rw [ZQ sY];rfl
 have jB:=Zh (fun (h:(XJ bs).2=0)=>oI (lQ h))
 have HSI:=Zh (fun (l:List RF) (h:(XJ bs).1 = .XV l)=>Be h)
 have VR:=ZV Pn
 have W9:=hR.lt
 have mj:k≠b:=fun e=>by
  obtain ⟨_,_,_,h,_⟩:=hR.VC
  rw [←e,Pn] at h
  injection h with h
  injection h with _ h
  exact absurd h Zd
 obtain ⟨⟨N9,hc0⟩,⟨tC,kP⟩,⟨hu0,Bx⟩,⟨hr0,mh⟩⟩:=hc
 obtain ⟨kd,p,s,q,nm,ss⟩:=o
 dsimp only at sY HX ⊢
 subst sY
 obtain ⟨y0,y1,T5⟩:=V9 w (Qa 1 p s q (str nm) sa sl sc ba bl bc) (Qe 0 0 0 0) 32 35
 have Vp:Hid (Below w w ((w.alloc (.cells (Qa 1 p s q (str nm) sa sl sc ba bl bc) 32)).alloc (.cells (Qe 0 0 0 0) 35))):=ZC (Z' w _) (Zw _) _
 have CS:=Zh (EU _ bs ((w.alloc (.cells (Qa 1 p s q (str nm) sa sl sc ba bl bc) 32)).alloc (.cells (Qe 0 0 0 0) 35)) (sU.below Vp.o))
 have HBLK:=Zh Pn
 have Vr:=Zh hR
 have HJ:=Zh (hs.XI p)
 have MV:=Zh hs
 have HII:=Zh hI
 have I5:=Zh hS
 generalize take R ep ⟨1,p,s,q,nm,ss⟩ bs sv=X at *
 generalize XJ bs=SB at *
 obtain ⟨E,er⟩:=SB
 dsimp only at CS HX jB HSI
 clear Pn sU hR hs hI hS
 go_enter Tryz.func42,Tryz.ntmps42
 go_upto_region 8 with (go_at_call 41;refine CS.o.mono ?_;rintro e w2 ⟨⟨a,rfl,Lm⟩,Y0⟩;obtain ⟨cv,xv,pv,iv,rfl,IW⟩:=zI.form Lm;obtain ⟨⟨ca,cc,F6⟩,⟨ea,ec,hxv⟩,⟨pa,pc,Mr⟩⟩:=Vt.form IW.p;obtain ⟨ia,ic,Ak⟩:=YI.form IW.i;dsimp only at F6 hxv Mr Ak;subst F6;subst hxv;subst Mr;subst Ak;dsimp only [Xg,Rn,VN,List.cons_append,Jy];have Gd:=Zh IW.i;have X6:=Zh Y0;clear Lm IW Y0)
 clear CS
 dsimp only at Gd
 generalize E.kd=K at *
 generalize E.pk=P at *
 generalize E.ds=d at *
 generalize E.il=IL at *
 have ye:=Z7 w2 (.cells (Js K P ca cc ea ec pa pc d ia IL.length ic) 84)
 have VT:Hid (Below w w (w2.alloc (.cells (Js K P ca cc ea ec pa pc d ia IL.length ic) 84))):=ZC (Vp.o.trans (X6.o.mono Vp.o.size)) (Zw _) _
 have eW:=((X6.o.trans ((Z' w2 (.cells (Js K P ca cc ea ec pa pc d ia IL.length ic) 84)).mono X6.o.size)).block _ (ZV y0)).trans y0
 have FD:=((X6.o.trans ((Z' w2 (.cells (Js K P ca cc ea ec pa pc d ia IL.length ic) 84)).mono X6.o.size)).block _ (ZV y1)).trans y1
 have mR:=Zh (Gd.o.below (Z' w2 (.cells (Js K P ca cc ea ec pa pc d ia IL.length ic) 84)))
 have heb:w.heap.size+2≤w2.heap.size:=by have:=X6.o.size;rw [T5] at this;exact this
 clear y0 y1 Gd T5
 generalize (w2.alloc (.cells (Js K P ca cc ea ec pa pc d ia IL.length ic) 84))=w3 at *
 generalize w2.heap.size=eb at *
 have kW:=(VT.o.block _ VR).trans HBLK.o
 have ie:=Zh (Vr.o.below VT.o)
 have kD:Hid (Fr w (fun j=>j=k∨j=b) w w3):=Fr.Z8 _ VT.o
 by_cases R9:er=0
 rotate_left
 ·have bl:(er != 0)=true:=by rw [R6];exact R9
  have hX:X=((Yf 3 er,R),ep):=by rw [HX.o];exact ZQ R9
  have sP:=Zh hX
  clear HX jB HSI hX X6 Vp mR ye eW
  go_upto_region 9 with fail
  have q8:w3.cell? ⟨k,4,none⟩=some (.int .i64 c.bad):=Zc kW 4 rfl
  have f8:w3.frozen? ⟨k,4,none⟩=false:=ZO kW 4
  have kJ:=Zh (Uu ie.o (Fr.setAt (Fr.refl w3.heap.size (· = k) w3) 4 (.int .i64 (c.bad+1))) (U4 kW Zd))
  have oQ:=Zh (VM kW 4 (.int .i64 (c.bad+1)))
  have kC:=Zh (kD.o.setCell (p:=⟨k,4,none⟩) (Wi (Ww rfl)) (.int .i64 (c.bad+1)))
  have oW:=Zh ((MW w3 ⟨k,4,none⟩ (.int .i64 (c.bad+1)) (w.heap.size+1) (by show _≠k;omega)).trans FD)
  clear kW FD
  go_upto_region 10 with fail
  generalize w3.setCell ⟨k,4,none⟩ (.int .i64 (c.bad+1))=w8 at *
  have y1:=oW.o
  have kb:=oQ.o
  clear q8 f8
  go_wp2_with (first|((with_reducible refine ZU 35 (.tmp 6) (.tmp 61) rfl ?_);refine Zs y1 ?_))
  refine VJ (v:= .agg (Qe 3 0 0 er)) ?_ rfl ?_
  ·exact V4 (p:=6) Zr _ _ (w.heap.size+1) 35 (Qe 3 0 0 er) (0,0) _ Zr (setRow_heap _ _ _ _ _ _ y1) Tryz.underlying35 rfl Zk
  exact cy
 subst R9
 have Bv:=Zh (jB.o rfl)
 rw [Z4 (fun h=>h rfl)] at HX
 have HY0:=Zh eW
 have L3:=Zh FD
 have aK:=Zh ye
 have lW:=Zh kW
 have Zz:Hid (∀ w',Below w3 w3 w'→w'.cell? ⟨k,12,none⟩=some (.pointer (some ⟨b,0,none⟩))∧w'.cell? ⟨w,1,none⟩=some (.int .i64 p)∧w'.cell? ⟨eb,5,none⟩=some (.int .u32 P.Yy)∧w'.cell? ⟨eb,12,none⟩=some (.int .i64 d.ZF)):=fun w' h=>by
  have a1:=(h.block _ (ZV lW.o)).trans lW.o
  have a2:=(h.block _ (ZV HY0.o)).trans HY0.o
  have a3:=(h.block _ (ZV aK.o)).trans aK.o
  exact ⟨Zc a1 12 rfl,Zc a2 1 rfl,Zc a3 5 rfl,Zc a3 12 rfl⟩
 have CP:=Zh (SI b T p w3.drew (ie.o.below (YH _ _).drew))
 clear jB Vp X6 eW FD ye kW
 generalize T.XI p=tp at *
 go_upto_region 11 with fail
 refine Sd ?_
 refine Z_.Zu (d:=6) (S:=(fun w'=>w'.cell? ⟨k,12,none⟩=some (.pointer (some ⟨b,0,none⟩))∧w'.cell? ⟨w,1,none⟩=some (.int .i64 p)∧w'.cell? ⟨eb,5,none⟩=some (.int .u32 P.Yy)∧w'.cell? ⟨eb,12,none⟩=some (.int .i64 d.ZF))) Zk ?_ (fun X_=>?_)
 ·(try dsimp only)
  exact Zz.o _ (YH _ _).drew
 refine YP 0 (h:=YP 1 (h:=YP 2 (h:=YP 4 (h:=YK 3 (h:=YK 5 (h:=?_))))))
 refine YR 6 (h:=fun K hK=>?_)
 go_simp
 refine CP.o.mono ?_
 rintro e w6 ⟨rfl,Ep⟩
 have mJ:Hid (Below w3 w3 w6):=(YH w3.heap.size w3).drew.trans Ep
 clear Ep
 go_wp2_with fail
 refine Z_.Ye hK _ _ Zk ?_
 clear hK K
 try simp only [Z_.pt]
 refine YP 7 (h:=YP 8 (h:=?_))
 refine Z_.Yr Zk ?_ _
 refine QY ?_
 clear CP
 by_cases hj:0≤tp
 rotate_left
 ·have hjd:decide (tp<0)=true:=We Zo
  have dZ:Ze R p=false:=by rw [K4];intro h;exact hj (HJ.o.2 h)
  have hX:X=((Yf 4 0,R),ep):=by rw [HX.o,dZ];rfl
  have sP:=Zh hX
  have Em:=Zh (mJ.o)
  have kW:=(Em.o.block _ (ZV lW.o)).trans lW.o
  have FD:=(Em.o.block _ (ZV L3.o)).trans L3.o
  have Af:=Zh (ie.o.below Em.o)
  have Cu:Hid (Fr w (fun j=>j=k∨j=b) w w6):=kD.o.trans (Fr.Z8 _ (Em.o.mono kD.o.size))
  clear HX HJ hX dZ Zz mR
  go_upto_region 12 with fail
  have q8:w6.cell? ⟨k,5,none⟩=some (.int .i64 c.XG):=Zc kW 5 rfl
  have f8:w6.frozen? ⟨k,5,none⟩=false:=ZO kW 5
  have kJ:=Zh (Uu Af.o (Fr.setAt (Fr.refl w6.heap.size (· = k) w6) 5 (.int .i64 (c.XG+1))) (U4 kW Zd))
  have oQ:=Zh (VM kW 5 (.int .i64 (c.XG+1)))
  have kC:=Zh (Cu.o.setCell (p:=⟨k,5,none⟩) (Wi (Ww rfl)) (.int .i64 (c.XG+1)))
  have oW:=Zh ((MW w6 ⟨k,5,none⟩ (.int .i64 (c.XG+1)) (w.heap.size+1) (by show _≠k;omega)).trans FD)
  clear kW FD
  go_upto_region 13 with fail
  generalize w6.setCell ⟨k,5,none⟩ (.int .i64 (c.XG+1))=w8 at *
  have y1:=oW.o
  have kb:=oQ.o
  clear q8 f8
  go_wp2_with (first|((with_reducible refine ZU 35 (.tmp 6) (.tmp 80) rfl ?_);refine Zs y1 ?_))
  refine VJ (v:= .agg (Qe 4 0 0 0)) ?_ rfl ?_
  ·exact V4 (p:=6) Zr _ _ (w.heap.size+1) 35 (Qe 4 0 0 0) (0,0) _ Zr (setRow_heap _ _ _ _ _ _ y1) Tryz.underlying35 rfl Zk
  exact cy
 have hjd:decide (tp<0)=false:=WB Zo
 have dZ:Ze R p=true:=HJ.o.1 hj
 rw [dZ] at HX
 rw [Z4 Zi] at HX
 have e6:=(mJ.o.block _ (ZV aK.o)).trans aK.o
 have k0:w6.cell? ⟨eb,0,none⟩=some (.int .i64 K):=Zc e6 0 rfl
 clear HJ dZ e6
 rcases Bv.o with ⟨rfl,hE⟩|⟨rfl,hE⟩
 rotate_left
 ·subst hE
  dsimp only at HX
  have P8:=Zh (HSI.o IL rfl)
  have HID:=Zh (Rg p IL R HII.o I5.o P8.o.1)
  have Em:=Zh mJ.o
  have kW:=(Em.o.block _ (ZV lW.o)).trans lW.o
  have FD:=(Em.o.block _ (ZV L3.o)).trans L3.o
  have Af:=Zh (ie.o.below Em.o)
  have Cu:Hid (Fr w (fun j=>j=k∨j=b) w w6):=kD.o.trans (Fr.Z8 _ (Em.o.mono kD.o.size))
  have y0:=(Em.o.block _ (ZV HY0.o)).trans HY0.o
  have ye:=(Em.o.block _ (ZV aK.o)).trans aK.o
  have jm:=Zh kW
  have HY16:=Zh FD
  have HY06:=Zh y0
  have HYE6:=Zh ye
  have mS:=Zh (mR.o.below Em.o)
  have hid1:=HID.o.2.2.2.1
  have hid2:=HID.o.2.2.2.2
  have hid3:=P8.o.2
  have hbe:b≠eb:=by omega
  have P9:Hid (∀ w',Fr w6 (· = b) w6 w'→w'.cell? ⟨k,6,none⟩=some (.int .i64 c.unknown)∧w'.cell? ⟨k,12,none⟩=some (.pointer (some ⟨b,0,none⟩))∧w'.cell? ⟨w,1,none⟩=some (.int .i64 p)∧w'.cell? ⟨eb,16,none⟩=some (.slice ia IL.length ic)):=fun w' h=>by
   have a1:=(h.block _ (ZV jm.o) mj).trans jm.o
   have a2:=(h.block _ (ZV HY06.o) Zo).trans HY06.o
   have a3:=(h.block _ (ZV HYE6.o) (fun e=>hbe e.symm)).trans HYE6.o
   exact ⟨Zc a1 6 rfl,Zc a1 12 rfl,Zc a2 1 rfl,Zc a3 16 rfl⟩
  have CU:=Zh (Bo b T R p _ IL w6.drew (Af.o.below (YH _ _).drew) MV.o HII.o I5.o (mS.o.below (YH _ _).drew) P8.o.1 P8.o.2)
  generalize ZE p IL R=ID at *
  obtain ⟨⟨D1,D2⟩,du⟩:=ID
  dsimp only at HX CU hid1 hid2
  clear kW FD y0 ye Zz P8 HSI Bv mS mR
  go_upto_region 15 with fail
  refine Sd ?_
  refine Z_.Zu (d:=18) (S:=(fun w'=>w'.cell? ⟨k,6,none⟩=some (.int .i64 c.unknown)∧w'.cell? ⟨k,12,none⟩=some (.pointer (some ⟨b,0,none⟩))∧w'.cell? ⟨w,1,none⟩=some (.int .i64 p)∧w'.cell? ⟨eb,16,none⟩=some (.slice ia IL.length ic))) Zk ?_ (fun X_=>?_)
  ·(try dsimp only)
   first|exact P9.o _ (Fr.Z8 _ (YH _ _).drew)|exact P9.o _ lV.o
  refine YP 0 (h:=YP 1 (h:=YP 2 (h:=YP 3 (h:=YP 5 (h:=YP 6 (h:=YP 7 (h:=YP 9 (h:=YP 11 (h:=YQ 4 [] (h:=YQ 8 [] (h:=YQ 10 [] (h:=YQ 12 [] (h:=?_)))))))))))))
  refine YR 13 (h:=fun K hK=>?_)
  go_simp
  refine CU.o.mono ?_
  rintro e w7 ⟨rfl,⟨T7,lh,eI⟩,kS⟩
  have HR7:=Zh lh
  have HS7:=Zh eI
  have lV:Hid (Fr w6 (· = b) w6 w7):=(Fr.Z8 _ (YH w6.heap.size w6).drew).trans (kS.mono (YH w6.heap.size w6).drew.size (fun _ _ h=>h))
  have k7:=(lV.o.block _ (ZV jm.o) mj).trans jm.o
  have f7:w7.frozen? ⟨k,6,none⟩=false:=ZO k7 6
  have kJ:=Zh (Uu lh (Fr.setAt (Fr.refl w7.heap.size (· = k) w7) 6 (.int .i64 (c.unknown+du))) (U4 k7 Zd))
  have oQ:=Zh (VM k7 6 (.int .i64 (c.unknown+du)))
  have kC:=Zh (Fr.setCell (p:=⟨k,6,none⟩) (Cu.o.trans (lV.o.mono Cu.o.size (fun _ _ h=>Wi h))) (Wi (Ww rfl)) (.int .i64 (c.unknown+du)))
  have oW:=Zh ((MW w7 ⟨k,6,none⟩ (.int .i64 (c.unknown+du)) (w.heap.size+1) (by show _≠k;omega)).trans ((lV.o.block _ (ZV HY16.o) Zo).trans HY16.o))
  clear lh eI kS k7 CU
  go_wp2_with fail
  refine Z_.Y_ hK _ _ ?_ (fun XC=>?_)
  ·(try dsimp only)
   first|exact P9.o _ (Fr.Z8 _ (YH _ _).drew)|exact P9.o _ lV.o
  clear hK K
  try simp only [Z_.pt]
  refine YP 14 (h:=YP 15 (h:=YP 16 (h:=YP 17 (h:=?_))))
  refine YR 18 (h:=fun K hK=>?_)
  go_simp
  refine Z_.Ye hK _ _ Zk ?_
  clear hK K
  try simp only [Z_.pt]
  refine Z_.Yr Zk ?_ _
  refine QY ?_
  have hX:X=((Ul (ep+1) IL D1 du,D2),ep+1):=HX.o
  have sP:=Zh hX
  clear HX hX P9
  have y1:=oW.o
  have kb:=oQ.o
  go_wp2_with (first|((with_reducible refine ZU 35 (.tmp 6) (.tmp 105) rfl ?_);refine Zs y1 ?_))
  refine VJ (v:= .agg (Qe 2 0 (ep+1) 0)) ?_ rfl ?_
  ·exact V4 (p:=6) Zr _ _ (w.heap.size+1) 35 (Qe 2 0 (ep+1) 0) (0,0) _ Zr (setRow_heap _ _ _ _ _ _ y1) Tryz.underlying35 rfl Zk
  exact Un.fin (T':=_) sP.o (by simp [O7.add,Ul,UJ]) kb kJ.o HS7.o kC.o VR y1
 subst hE
 dsimp only at HX
 have ME:=Zh (EY MV.o HII.o p P.Yy)
 have bS:Hid (Vd R ep p P d=if owned R p P.Yy && decide ((T.of P.Yy).2.1=d.ZF) then {UJ with XE:=⟨1,(T.of P.Yy).1,ep,0⟩,XT:=P,Wo:=d} else Yf 5 0):=by show _=_;rw [MV.o.of_eq HII.o];rfl
 generalize Vd R ep p P d=M at *
 have Em:=Zh mJ.o
 have P9:Hid (∀ w',Below w6 w6 w'→w'.cell? ⟨k,12,none⟩=some (.pointer (some ⟨b,0,none⟩))∧w'.cell? ⟨w,1,none⟩=some (.int .i64 p)∧w'.cell? ⟨eb,5,none⟩=some (.int .u32 P.Yy)∧w'.cell? ⟨eb,12,none⟩=some (.int .i64 d.ZF)):=fun w' h=>Zz.o _ (Em.o.trans (h.mono Em.o.size))
 have CO:=Zh (Ni b T P.Yy w6.drew (ie.o.below (Em.o.drew)))
 have mD:=Zh (fun (x:Int) (w':World) (h:Below w6 w6 w')=>Rv b T x w' (ie.o.below (Em.o.trans (h.mono Em.o.size))))
 generalize owned R p P.Yy=ow at *
 generalize T.of P.Yy=O at *
 obtain ⟨O1,O2,O3⟩:=O
 dsimp only at CO ME bS
 clear Zz mR HSI Bv
 go_upto_region 17 with fail
 refine Sd ?_
 refine Z_.Zu (d:=7) (S:=(fun w'=>w'.cell? ⟨k,12,none⟩=some (.pointer (some ⟨b,0,none⟩))∧w'.cell? ⟨w,1,none⟩=some (.int .i64 p)∧w'.cell? ⟨eb,5,none⟩=some (.int .u32 P.Yy)∧w'.cell? ⟨eb,12,none⟩=some (.int .i64 d.ZF))) Zk ?_ (fun X_=>?_)
 ·(try dsimp only)
  exact P9.o _ (YH _ _).drew
 refine YP 0 (h:=YP 1 (h:=YP 2 (h:=YP 4 (h:=YP 5 (h:=YK 3 (h:=YK 6 (h:=?_)))))))
 refine YR 7 (h:=fun K hK=>?_)
 go_simp
 refine CO.o.mono ?_
 rintro e w7 ⟨rfl,MK⟩
 have yK:Hid (Below w6 w6 w7):=(YH w6.heap.size w6).drew.trans MK
 clear MK
 go_wp2_with fail
 refine Z_.Ye hK _ _ Zk ?_
 clear hK K
 try simp only [Z_.pt]
 refine YP 8 (h:=YP 9 (h:=YP 10 (h:=YP 11 (h:=YP 12 (h:=YP 13 (h:=YP 14 (h:=?_)))))))
 refine Z_.Yr Zk ?_ _
 refine QY ?_
 clear CO
 have hB7:=Zh (Em.o.trans (yK.o.mono Em.o.size))
 have ay:Hid (X=((M,R),ep)):=HX.o
 clear HX
 go_upto_region 18 with fail
 by_cases mn:O3=true∧O2=d.ZF
 rotate_left
 ·have hM:M=Yf 5 0:=by
   rw [bS.o]
   refine Z4 fun h=>mn ?_
   rw [TU,Oh] at h
   exact ⟨(ME.o.2 h.1).1,h.2⟩
  have hX:X=((Yf 5 0,R),ep):=by rw [ay.o,hM]
  have sP:=Zh hX
  obtain ⟨z12,z1,z5,z4⟩:=P9.o _ yK.o
  clear ay bS ME hM hX mD
  have Tz:O3=false∨(O3=true∧O2≠d.ZF):=by cases O3 <;> simp at mn ⊢;exact mn
  clear mn
  rcases Tz with rfl|⟨rfl,mn⟩
  case' inr=>have YZ:(O2 != d.ZF)=true:=by rw [R6];exact mn
  all_goals
   go_quiet (fail)
   have hB8:=Zh (below_drewN hB7.o nq)
   have kW:=(hB8.o.block _ (ZV lW.o)).trans lW.o
   have FD:=(hB8.o.block _ (ZV L3.o)).trans L3.o
   have Af:=Zh (ie.o.below hB8.o)
   have Cu:Hid (Fr w (fun j=>j=k∨j=b) w (w7.drewN nq)):=kD.o.trans (Fr.Z8 _ (hB8.o.mono kD.o.size))
   clear P9 z12 z1 z5 z4
   generalize w7.drewN nq=w9 at *
   go_upto_region 19 with fail
   have q8:w9.cell? ⟨k,6,none⟩=some (.int .i64 c.unknown):=Zc kW 6 rfl
   have f8:w9.frozen? ⟨k,6,none⟩=false:=ZO kW 6
   have kJ:=Zh (Uu Af.o (Fr.setAt (Fr.refl w9.heap.size (· = k) w9) 6 (.int .i64 (c.unknown+1))) (U4 kW Zd))
   have oQ:=Zh (VM kW 6 (.int .i64 (c.unknown+1)))
   have kC:=Zh (Cu.o.setCell (p:=⟨k,6,none⟩) (Wi (Ww rfl)) (.int .i64 (c.unknown+1)))
   have oW:=Zh ((MW w9 ⟨k,6,none⟩ (.int .i64 (c.unknown+1)) (w.heap.size+1) (by show _≠k;omega)).trans FD)
   clear kW FD
   go_upto_region 20 with fail
   generalize w9.setCell ⟨k,6,none⟩ (.int .i64 (c.unknown+1))=w8 at *
   have y1:=oW.o
   have kb:=oQ.o
   clear q8 f8
   go_wp2_with (first|((with_reducible refine ZU 35 (.tmp 6) (.tmp 147) rfl ?_);refine Zs y1 ?_))
   refine VJ (v:= .agg (Qe 5 0 0 0)) ?_ rfl ?_
   ·exact V4 (p:=6) Zr _ _ (w.heap.size+1) 35 (Qe 5 0 0 0) (0,0) _ Zr (setRow_heap _ _ _ _ _ _ y1) Tryz.underlying35 rfl Zk
   exact Un.fin (T':=_) sP.o (by simp [O7.add,Yf,UJ]) kb kJ.o MV.o kC.o VR y1
 obtain ⟨rfl,mn⟩:=mn
 have YZ:(O2 != d.ZF)=false:=by rw [mn,bne_self_eq_false]
 have CW:=Zh (mD.o O1 w7.drew (yK.o.trans (YH _ _).drew))
 generalize T.owner O1=tw at *
 clear mD
 refine Sd ?_
 refine Z_.Zu (d:=19) (S:=(fun w'=>w'.cell? ⟨k,12,none⟩=some (.pointer (some ⟨b,0,none⟩))∧w'.cell? ⟨w,1,none⟩=some (.int .i64 p)∧w'.cell? ⟨eb,5,none⟩=some (.int .u32 P.Yy)∧w'.cell? ⟨eb,12,none⟩=some (.int .i64 d.ZF))) Zk ?_ (fun X_=>?_)
 ·(try dsimp only)
  first|exact P9.o _ (yK.o.trans ((YH w7.heap.size w7).drew.mono yK.o.size))|exact P9.o _ (yK.o.trans (HBG.o.mono yK.o.size))
 refine YP 0 (h:=YP 1 (h:=YP 2 (h:=YP 3 (h:=YP 4 (h:=YP 5 (h:=YQ 6 [9,8,7] (h:=YP 7 (h:=YP 8 (h:=YP 9 (h:=YP 10 (h:=YP 11 (h:=YP 12 (h:=YP 14 (h:=YP 16 (h:=YQ 13 [18,15] (h:=YQ 17 [18] (h:=?_)))))))))))))))))
 refine YR 15 (h:=fun K hK=>?_)
 go_simp
 refine CW.o.mono ?_
 rintro e w9 ⟨rfl,kN⟩
 have HBG:Hid (Below w7 w7 w9):=(YH w7.heap.size w7).drew.trans kN
 clear kN
 go_wp2_with fail
 refine Z_.Y_ hK _ _ ?_ (fun XC=>?_)
 ·(try dsimp only)
  first|exact P9.o _ (yK.o.trans ((YH w7.heap.size w7).drew.mono yK.o.size))|exact P9.o _ (yK.o.trans (HBG.o.mono yK.o.size))
 clear hK K
 try simp only [Z_.pt]
 refine YP 18 (h:=?_)
 refine YR 19 (h:=fun K hK=>?_)
 go_simp
 refine Z_.Ye hK _ _ Zk ?_
 clear hK K
 try simp only [Z_.pt]
 refine Z_.Yr Zk ?_ _
 refine QY ?_
 have hB9:=Zh (hB7.o.trans (HBG.o.mono hB7.o.size))
 have kW:=(hB9.o.block _ (ZV lW.o)).trans lW.o
 have FD:=(hB9.o.block _ (ZV L3.o)).trans L3.o
 have Af:=Zh (ie.o.below hB9.o)
 have Cu:Hid (Fr w (fun j=>j=k∨j=b) w w9):=kD.o.trans (Fr.Z8 _ (hB9.o.mono kD.o.size))
 clear P9 CW
 by_cases htw:tw=p
 rotate_left
 ·have Y0:(tw != p)=true:=by rw [R6];exact htw
  have hM:M=Yf 5 0:=by
   rw [bS.o]
   refine Z4 fun h=>htw ?_
   rw [TU,Oh] at h
   exact (ME.o.2 h.1).2
  have hX:X=((Yf 5 0,R),ep):=by rw [ay.o,hM]
  have sP:=Zh hX
  clear ay bS ME hM hX
  go_upto_region 19 with fail
  have q8:w9.cell? ⟨k,6,none⟩=some (.int .i64 c.unknown):=Zc kW 6 rfl
  have f8:w9.frozen? ⟨k,6,none⟩=false:=ZO kW 6
  have kJ:=Zh (Uu Af.o (Fr.setAt (Fr.refl w9.heap.size (· = k) w9) 6 (.int .i64 (c.unknown+1))) (U4 kW Zd))
  have oQ:=Zh (VM kW 6 (.int .i64 (c.unknown+1)))
  have kC:=Zh (Cu.o.setCell (p:=⟨k,6,none⟩) (Wi (Ww rfl)) (.int .i64 (c.unknown+1)))
  have oW:=Zh ((MW w9 ⟨k,6,none⟩ (.int .i64 (c.unknown+1)) (w.heap.size+1) (by show _≠k;omega)).trans FD)
  clear kW FD
  go_upto_region 20 with fail
  generalize w9.setCell ⟨k,6,none⟩ (.int .i64 (c.unknown+1))=w8 at *
  have y1:=oW.o
  have kb:=oQ.o
  clear q8 f8
  go_wp2_with (first|((with_reducible refine ZU 35 (.tmp 6) (.tmp 147) rfl ?_);refine Zs y1 ?_))
  refine VJ (v:= .agg (Qe 5 0 0 0)) ?_ rfl ?_
  ·exact V4 (p:=6) Zr _ _ (w.heap.size+1) 35 (Qe 5 0 0 0) (0,0) _ Zr (setRow_heap _ _ _ _ _ _ y1) Tryz.underlying35 rfl Zk
  exact cy
 have Y0:(tw != p)=false:=by rw [htw,bne_self_eq_false]
 have hX:X=(({UJ with XE:=⟨1,O1,ep,0⟩,XT:=P,Wo:=d},R),ep):=by
  rw [ay.o,bS.o,ME.o.1 ⟨by trivial,htw⟩,mn,We rfl];rfl
 have sP:=Zh hX
 have y1:=FD
 have kb:=kW
 clear ay bS ME hX
 go_wp2_with (first|((with_reducible refine ZU 35 (.tmp 6) (.tmp 150) rfl ?_);refine Zs y1 ?_))
 refine VJ (v:= .agg (Qe 1 O1 ep 0)) ?_ rfl ?_
 ·exact V4 (p:=6) Zr _ _ (w.heap.size+1) 35 (Qe 1 O1 ep 0) (0,0) _ Zr (setRow_heap _ _ _ _ _ _ y1) Tryz.underlying35 rfl Zk
 exact Un.fin (T':=_) sP.o (by simp [O7.add,UJ]) kb Af.o MV.o Cu.o VR y1
end Go.Proofs.By
