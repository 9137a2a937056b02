/- Part of a proof. -/
import Derived.Test.YtpdjhlcbcomdkaaGreatDoorW32
set_option linter.unusedVariables false
set_option linter.unusedSimpArgs false
set_option maxRecDepth 100000
set_option maxHeartbeats 16000000
open Go Go.Q Go.Qr
namespace Go.Proofs.By
open Go.RowKit Go.Proofs.Heap Go.Proofs
open Go.Proofs.Rm (ZL ZN Vj Zv Wy below_drewN)
def Xh (n at':Int) (key:Int × Int) (Q:List Zq) (m:Nat):List Zq:=XB n at' (fun k=>decide (k=key)) (Q.take m)++Q.drop m
theorem Dn (n at':Int) (key:Int × Int) (Q:List Zq) (m:Nat):(Xh n at' key Q m).length=Q.length:=by
 unfold Xh XB
 rw [UM,Tx,Tg,Rx]
 omega
theorem FJ (n at':Int) (key:Int × Int) (Q:List Zq):Xh n at' key Q 0=Q:=by
 unfold Xh XB
 rw [List.take_zero,List.drop_zero];rfl
theorem Dm (n at':Int) (key:Int × Int) (Q:List Zq) {m:Nat} (h:Q.length≤m):Xh n at' key Q m=XB n at' (fun k=>decide (k=key)) Q:=by
 unfold Xh
 rw [F5 h,List.drop_eq_nil_of_le h,wC]
theorem FI (n at':Int) (key:Int × Int) {Q:List Zq} {m:Nat} (hm:m<Q.length):Xh n at' key Q (m+1)=if ((Xh n at' key Q m).getD m Wz).fin=n∧WH ((Xh n at' key Q m).getD m Wz)=key then (Xh n at' key Q m).set m {(Xh n at' key Q m).getD m Wz with fin:=at'} else Xh n at' key Q m:=by
 have hl:(XB n at' (fun k=>decide (k=key)) (Q.take m)).length=m:=by unfold XB;rw [Tx,Tg];omega
 have e0:Xh n at' key Q m=XB n at' (fun k=>decide (k=key)) (Q.take m)++Q[m] :: Q.drop (m+1):=by unfold Xh;rw [List.drop_eq_getElem_cons hm]
 have e1:(Xh n at' key Q m).getD m Wz=Q[m]:=by
  rw [e0,Rw,Z1d Zo,hl,Nat.sub_self];rfl
 have e2:Xh n at' key Q (m+1)=XB n at' (fun k=>decide (k=key)) (Q.take m)++(if Q[m].fin=n∧decide (WH Q[m]=key)=true then {Q[m] with fin:=at'} else Q[m]) :: Q.drop (m+1):=by
  unfold Xh
  rw [List.take_succ_eq_append_getElem hm]
  unfold XB
  rw [N7,gV]
  rfl
 rw [e1,e2]
 by_cases h:Q[m].fin=n∧WH Q[m]=key
 ·rw [ZQ h,ZQ ⟨h.1,We h.2⟩,e0,List.set_append_right _ _ Zo,hl,Nat.sub_self];rfl
 ·rw [Z4 h,Z4 (fun x=>h ⟨x.1,of_decide_eq_true x.2⟩),e0]
theorem qp (B k b:Nat) (oa:Option Addr) (n oc:Nat) (av ev lv uv:Value) (c0 c1 c2 c3:Int) (LS:List Zq) (T:ZN) (was:List Vj) (at':Int) (w:World)
  (Pn:w.heap[k]?=some (.cells (Qu oa n oc av ev lv c0 c1 c2 c3 0 0 0 0 (some ⟨b,0,none⟩)) 44 (0,0))) (hR:ZL w b T) (wZ:w.ownsRow B 59 4 lv LS.length (LS.flatMap ZY)) (lC:Row w 105 uv was.length (was.flatMap Zv)) :
  Calls Tryz.prog 43 #[.pointer (some ⟨k,0,none⟩),uv,.int .i64 at'] w fun e w'=>e = .returned (.tuple #[])∧w'.ownsRow B 59 4 lv (R3 n at' T was LS).length ((R3 n at' T was LS).flatMap ZY)∧Fr w (fun j=>lv.ownBlock=some j) w w':=by
 obtain ⟨la,lc,pj,BB⟩:=Row.Z6 wZ
 subst pj
 obtain ⟨ua,uc,rfl⟩:=Row.form lC
 have HK:Hid (∀ w',Fr w (fun j=>(Value.slice la LS.length lc).ownBlock=some j) w w'→w'.heap[k]?=some (.cells #[.slice oa n oc,av,ev,.slice la LS.length lc,.int .i64 c0,.int .i64 c1,.int .i64 c2,.int .i64 c3,.int .i64 0,.int .i64 0,.int .i64 0,.int .i64 0,.pointer (some ⟨b,0,none⟩)] 44 (0,0))):=fun w' hf=>(hf.block k (ZV Pn) (fun e=>Zf wZ Zd _ _ _ e Pn)).trans Pn
 have HR:Hid (∀ w',Fr w (fun j=>(Value.slice la LS.length lc).ownBlock=some j) w w'→ZL w' b T):=fun w' hf=>Uu hR hf (RN wZ Zd)
 have HU:Hid (∀ w',Fr w (fun j=>(Value.slice la LS.length lc).ownBlock=some j) w w'→Row w' 105 (.slice ua was.length uc) was.length (was.flatMap Zv)):=fun w' hf=>Row.fr lC hf (Zw _) (Zf wZ Zd)
 have HL:=Zh wZ
 have w_:=(Row.Z6 wZ).len
 have hwl:=lC.len
 rw [Ng]
 clear Pn hR wZ lC
 go_enter Tryz.func43,Tryz.ntmps43
 go_wp2_with fail
 go_loopw [11] (fun s11 w'=>∃ i:Nat,i≤was.length∧s11 = .int .i64 (i:Int)∧w'.ownsRow B 59 4 (.slice la LS.length lc) LS.length ((R3 n at' T (was.take i) LS).flatMap ZY)∧Fr w (fun j=>(Value.slice la LS.length lc).ownBlock=some j) w w') (fun s11 _=>was.length-(intOf s11).toNat)
 case atStart=>exact ⟨0,Zo,rfl,HL.o,Fr.refl _ _ _⟩
 case round=>
  obtain ⟨i,hi,rfl,YJ,Wx⟩:=hrel
  have Uh:=Zh Wx
  clear HL
  by_cases iC:i<was.length
  ·obtain ⟨g',off',e1,Vc⟩:=Tp Zv 4 (fun _=>rfl) (HU.o _ Wx) Zo
   cases e1
   have hx:was[i]?=some was[i]:=U7 iC
   have Vc:=Vc i _ hx
   have HT:=Zh (Rt hx)
   clear hx
   generalize was[i]=x at *
   have Mb:=Zh (xL n at' T (was.take i) x LS)
   have hQl:=Ng n at' T (was.take i) LS
   generalize R3 n at' T (was.take i) LS=Q at *
   have KQ:wr.rangeAt g' (off'+i*4) (Qk x.peer x.source x.want x.ZR):=fun m v hm=>(Vc m (by have h:=(List.getElem?_eq_some_iff.1 hm).1;simpa using h)).trans hm
   have hiI:(i:Int)<(was.length:Int):=Ou.2 iC
   have hz:=Z7 wr (.cells (Qk 0 0 0 false) 105)
   have JQ:=setRow_heap _ _ _ (Qk x.peer x.source x.want x.ZR) _ _ hz
   have P7:Hid (Below wr wr ((wr.alloc (.cells (Qk 0 0 0 false) 105)).setRow wr.heap.size (Qk x.peer x.source x.want x.ZR))):=Z3 (Z' wr _) (Zw _) _
   have Ie:Hid (Fr w (fun j=>(Value.slice la LS.length lc).ownBlock=some j) w ((wr.alloc (.cells (Qk 0 0 0 false) 105)).setRow wr.heap.size (Qk x.peer x.source x.want x.ZR))):=Wx.trans (Fr.Z8 _ (P7.o.mono Wx.size))
   have fU:=Zh (Yx YJ P7.o)
   have ld:=HK.o _ Ie.o
   clear Vc Wx YJ Uh P7
   go_upto_region 3 with (first|((with_reducible refine Y8 105 (.tmp 13) rfl ?_);refine Zm KQ Tryz.underlying105 ?_)|((with_reducible refine ZU 105 (.tmp 7) (.tmp 14) rfl ?_);refine Zs hz ?_))
   clear hz KQ
   have mj:=ZV JQ
   generalize ((wr.alloc (.cells (Qk 0 0 0 false) 105)).setRow wr.heap.size (Qk x.peer x.source x.want x.ZR))=w5 at *
   generalize wr.heap.size=kb at *
   have ny:=Zh JQ
   obtain ⟨xp,xs,xw,xz⟩:=x
   have jy:=Zh (HR.o _ Ie.o)
   have CB:=Zh (Wy b T xp xs w5.drew (jy.o.below (YH w5.heap.size w5).drew))
   have HOO:Hid (QJ n at' T Q ⟨xp,xs,xw,xz⟩=if 0≤T.Zb xp xs then Q else XB n at' (fun k=>decide (k=(xp,xs))) Q):=rfl
   generalize QJ n at' T Q ⟨xp,xs,xw,xz⟩=Q2 at *
   generalize T.Zb xp xs=sa at *
   have Zz:Hid (∀ w',Below w5 w5 w'→w'.cell? ⟨k,12,none⟩=some (.pointer (some ⟨b,0,none⟩))∧w'.cell? ⟨kb,0,none⟩=some (.int .i64 xp)∧w'.cell? ⟨kb,1,none⟩=some (.int .i64 xs)):=fun w' h=>by
    have a1:=(h.block _ (ZV ld)).trans ld
    have a2:=(h.block _ mj).trans ny.o
    exact ⟨Zc a1 12 rfl,Zc a2 0 rfl,Zc a2 1 rfl⟩
   clear JQ
   refine Sd ?_
   refine Z_.Zu (d:=8) (S:=(fun w'=>w'.cell? ⟨k,12,none⟩=some (.pointer (some ⟨b,0,none⟩))∧w'.cell? ⟨kb,0,none⟩=some (.int .i64 xp)∧w'.cell? ⟨kb,1,none⟩=some (.int .i64 xs))) Zk ?_ (fun X_=>?_)
   ·(try dsimp only)
    exact Zz.o _ (YH _ _).drew
   refine YP 0 (h:=YP 1 (h:=YP 2 (h:=YP 4 (h:=YP 6 (h:=YK 3 (h:=YK 5 (h:=YK 7 (h:=?_))))))))
   refine YR 8 (h:=fun K hK=>?_)
   go_simp
   refine CB.o.mono ?_
   rintro e w7 ⟨rfl,MK⟩
   have HBC:=Zh MK
   clear MK
   go_wp2_with fail
   refine Z_.Ye hK _ _ Zk ?_
   clear hK K
   try simp only [Z_.pt]
   refine YP 9 (h:=?_)
   refine Z_.Yr Zk ?_ _
   refine QY ?_
   clear Zz CB
   have BJ:Hid (Below w5 w5 w7):=(YH w5.heap.size w5).drew.trans HBC.o
   have lV:Hid (Fr w (fun j=>(Value.slice la LS.length lc).ownBlock=some j) w w7):=Ie.o.trans (Fr.Z8 _ (BJ.o.mono Ie.o.size))
   have HO7:=Zh (Yx fU.o BJ.o)
   have hx7:=(BJ.o.block _ mj).trans ny.o
   have hkb7:=Pb mj BJ.o.size
   clear HBC BJ Ie fU ny ld jy mj
   by_cases hs:0≤sa
   ·have b1:decide (0≤sa)=true:=We hs
    have PU:Hid (Q2=Q):=by show _=_;rw [HOO.o,ZQ hs]
    clear HOO
    go_wp2_with fail
    go_roundw
    case rel=>exact ⟨i+1,Zo,Zn,by rw [HT.o,Mb.o,PU.o];exact HO7.o,lV.o⟩
    case measure=>simp [intOf];omega
   have b1:decide (0≤sa)=false:=WB hs
   have PU:Hid (Q2=XB n at' (fun k=>decide (k=(xp,xs))) Q):=by show _=_;rw [HOO.o,Z4 hs]
   clear HOO
   have Es:=HK.o _ lV.o
   have k3:w7.cell? ⟨k,3,none⟩=some (.slice la LS.length lc):=Zc Es 3 rfl
   clear Es
   go_wp2_with fail
   go_loopw [30] (fun s30 w'=>∃ m:Nat,m≤LS.length∧s30 = .int .i64 (m:Int)∧w'.ownsRow B 59 4 (.slice la LS.length lc) LS.length ((Xh n at' (xp,xs) Q m).flatMap ZY)∧Fr w7 (fun j=>(Value.slice la LS.length lc).ownBlock=some j) w7 w') (fun s30 _=>LS.length-(intOf s30).toNat)
   case atStart=>exact ⟨0,Zo,rfl,by rw [FJ];exact HO7.o,Fr.refl _ _ _⟩
   case round=>
    obtain ⟨m,hm,rfl,YJ,Wx⟩:=hrel
    have HF8:Hid (Fr w (fun j=>(Value.slice la LS.length lc).ownBlock=some j) w wr):=lV.o.trans (Wx.mono lV.o.size (fun _ _ h=>h))
    have HFI:=Zh Wx
    have ME:=Zh YJ
    clear k3
    by_cases KO:m<LS.length
    ·have lf:=HK.o _ HF8.o
     have r0:wr.cell? ⟨k,0,none⟩=some (.slice oa n oc):=Zc lf 0 rfl
     have r3:wr.cell? ⟨k,3,none⟩=some (.slice la LS.length lc):=Zc lf 3 rfl
     have hx8:=(Wx.block _ hkb7 (fun e=>Zf HO7.o Zd _ _ _ e hx7)).trans hx7
     have q0:wr.cell? ⟨kb,0,none⟩=some (.int .i64 xp):=Zc hx8 0 rfl
     have q1:wr.cell? ⟨kb,1,none⟩=some (.int .i64 xs):=Zc hx8 1 rfl
     obtain ⟨g,c9,cur,e9,-,JM⟩:=My YJ Zo
     cases e9
     have hPl:=Dn n at' (xp,xs) Q m
     obtain ⟨y0,y1,y3⟩:=vr YJ (m:=m) Zo
     have fz:wr.frozen? ⟨g,m*4+3,none⟩=false:=ZO JM _
     have yZ:=FI n at' (xp,xs) (Q:=Q) (m:=m) Zo
     generalize hP:Xh n at' (xp,xs) Q m=P at *
     clear hP
     have pH:=G' at' P m Zo
     have iH:(m:Int)<(LS.length:Int):=Ou.2 KO
     have BZ:=Zh yZ
     have Fh:=Zh pH
     generalize P.getD m Wz=z at *
     obtain ⟨zp,zs,zb,zf⟩:=z
     dsimp only [WH] at y0 y1 y3 BZ Fh
     clear YJ Wx lf hx8 JM pH yZ
     go_upto_region 7 with fail
     by_cases hc:(zp=xp∧zs=xs)∧zf=(n:Int)
     ·obtain ⟨⟨rfl,rfl⟩,rfl⟩:=hc
      have mZ:Hid (Xh n at' (zp,zs) Q (m+1)=P.set m {peer:=zp,source:=zs,Kf:=zb,fin:=at'}):=by show _=_;rw [BZ.o];exact ZQ ⟨rfl,rfl⟩
      have HSW:Hid (∀ w',Below wr wr w'→(w'.setCell ⟨g,m*4+3,none⟩ (.int .i64 at')).ownsRow B 59 4 (.slice (some ⟨g,0,none⟩) LS.length lc) LS.length ((P.set m {peer:=zp,source:=zs,Kf:=zb,fin:=at'}).flatMap ZY)):=fun w' hb=>by
       have h2:=PA (Yx ME.o hb) Zo (m*4+3) (.int .i64 at')
       rw [Fh.o] at h2
       exact h2
      clear BZ
      go_quiet (fail)
      go_wp2
      go_roundw
      case rel=>
       refine ⟨m+1,Zo,Zn,?_,(HFI.o.trans (Fr.Z8 _ (below_drewN (YH _ _) _ |>.mono HFI.o.size))).setCell (p:=⟨g,m*4+3,none⟩) (Wi rfl) _⟩
       rw [mZ.o]
       exact HSW.o _ (below_drewN (YH _ _) _)
      case measure=>simp [intOf];omega
     ·have mZ:Hid (Xh n at' (xp,xs) Q (m+1)=P):=by show _=_;rw [BZ.o];exact Z4 (fun h=>hc ⟨by have h2:=h.2;rw [Prod.mk.injEq] at h2;exact h2,h.1⟩)
      clear BZ Fh
      have Tz:zp≠xp∨(zp=xp∧zs≠xs)∨(zp=xp∧zs=xs∧zf≠(n:Int)):=by by_cases a:zp=xp <;> by_cases b:zs=xs <;> by_cases c:zf=(n:Int) <;> simp [a,b,c] <;> exact hc ⟨⟨a,b⟩,c⟩
      clear hc
      rcases Tz with h|⟨rfl,h⟩|⟨rfl,rfl,h⟩
      case' inl=>have e1:(zp == xp)=false:=by rw [WQ];exact h
      case' inr.inl=>have e1:(zs == xs)=false:=by rw [WQ];exact h
      case' inr.inr=>have e1:(zf == (n:Int))=false:=by rw [WQ];exact h
      all_goals
       clear h
       go_quiet (fail)
       go_wp2
       go_roundw
       case rel=>exact ⟨m+1,Zo,Zn,by rw [mZ.o];exact Yx ME.o (below_drewN (YH _ _) _),HFI.o.trans (Fr.Z8 _ ((below_drewN (YH _ _) _).mono HFI.o.size))⟩
       case measure=>simp [intOf];omega
    ·have hA:=Dm n at' (xp,xs) Q (m:=m) Zo
     rw [hA] at YJ
     have mY:=Zh YJ
     clear YJ Wx ME hA
     go_wp2
     go_roundw
     case rel=>exact ⟨i+1,Zo,Zn,by rw [HT.o,Mb.o,PU.o];exact mY.o,HF8.o⟩
     case measure=>simp [intOf];omega
  ·have hT:was.take i=was:=F5 Zo
   rw [hT] at YJ
   have mY:=Zh YJ
   clear YJ Wx hT
   go_wp2
   first|refine bodyPost_end (results_none Zr _ _ _) rfl ?_|refine VJ (results_none Zr _ _ _) rfl ?_
   exact ⟨rfl,mY.o,Uh.o⟩
open Go.Proofs.Rm (YG YD Room ZT Inv Wm YO aL Xm)
open Go.Proofs.Od (Xz)
open Go.Proofs.Mem
end Go.Proofs.By
namespace Go.Proofs.By
open Go.RowKit Go.Proofs.Heap
open Go.Proofs.Rm (below_drewN Room Inv Wa aL Xm YO SQ TQ)
open Go.Proofs.Od (Xz)
open Go.Proofs.Mem
theorem sB {c:O7} {n:Int} (h:c.Below n) (k:Int) {u:Int} (h0:0≤u) (h1:u≤8000):(c.add k u).Below (n+8001):=by
 obtain ⟨⟨a1,a2⟩,⟨b1,b2⟩,⟨c1,c2⟩,⟨d1,d2⟩⟩:=h
 unfold O7.add
 refine ⟨?_,?_,?_,?_⟩ <;> dsimp only <;> split <;> omega
end Go.Proofs.By
