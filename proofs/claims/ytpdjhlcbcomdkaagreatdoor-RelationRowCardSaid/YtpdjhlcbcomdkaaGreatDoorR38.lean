/- Part of a proof. -/
import Derived.Test.YtpdjhlcbcomdkaaGreatDoorR36
set_option linter.unusedVariables false
set_option linter.unusedSimpArgs false
set_option maxRecDepth 100000
set_option maxHeartbeats 16000000
open Go Go.Q Go.Qr
namespace Go.Proofs.By
open Go.RowKit Go.Proofs.Heap Go.Proofs
open Go.Proofs.Rm (ZL ZN Va Zt Wv below_drewN)
def Xc (n at':Int) (key:Int × Int) (Q:List Zu) (m:Nat):List Zu:=Xx n at' (fun k=>decide (k=key)) (Q.take m)++Q.drop m
theorem CX (n at':Int) (key:Int × Int) (Q:List Zu) (m:Nat):(Xc n at' key Q m).length=Q.length:=by
 unfold Xc Xx;rw [UE,TB,S4,Rg];omega
theorem Fq (n at':Int) (key:Int × Int) (Q:List Zu):Xc n at' key Q 0=Q:=by
 unfold Xc Xx;rw [List.take_zero,List.drop_zero];rfl
theorem Cz (n at':Int) (key:Int × Int) (Q:List Zu) {m:Nat} (h:Q.length≤m):Xc n at' key Q m=Xx n at' (fun k=>decide (k=key)) Q:=by
 unfold Xc;rw [FL h,List.drop_eq_nil_of_le h,um]
theorem Fp (n at':Int) (key:Int × Int) {Q:List Zu} {m:Nat} (hm:m<Q.length):Xc n at' key Q (m+1)=if ((Xc n at' key Q m).getD m Wx).fin=n∧WB ((Xc n at' key Q m).getD m Wx)=key then (Xc n at' key Q m).set m {(Xc n at' key Q m).getD m Wx with fin:=at'} else Xc n at' key Q m:=by
 have hl:(Xx n at' (fun k=>decide (k=key)) (Q.take m)).length=m:=by unfold Xx;rw [TB,S4];omega
 have e0:Xc n at' key Q m=Xx n at' (fun k=>decide (k=key)) (Q.take m)++Q[m] :: Q.drop (m+1):=by unfold Xc;rw [List.drop_eq_getElem_cons hm]
 have e1:(Xc n at' key Q m).getD m Wx=Q[m]:=by
  rw [e0,SC,Z1c Zo,hl,Nat.sub_self];rfl
 have e2:Xc n at' key Q (m+1)=Xx n at' (fun k=>decide (k=key)) (Q.take m)++(if Q[m].fin=n∧decide (WB Q[m]=key)=true then {Q[m] with fin:=at'} else Q[m]) :: Q.drop (m+1):=by
  unfold Xc;rw [List.take_succ_eq_append_getElem hm];unfold Xx;rw [NR,gb];rfl
 rw [e1,e2];by_cases h:Q[m].fin=n∧WB Q[m]=key
 ·rw [ZR h,ZR ⟨h.1,Wi h.2⟩,e0,List.set_append_right _ _ Zo,hl,Nat.sub_self];rfl
 ·rw [Z4 h,Z4 (fun x=>h ⟨x.1,of_decide_eq_true x.2⟩),e0]
theorem pK (B k b:Nat) (oa:Option Addr) (n oc:Nat) (av ev lv uv:Value) (c0 c1 c2 c3:Int) (LS:List Zu) (T:ZN) (was:List Va) (at':Int) (w:World)
  (O7:w.heap[k]?=some (.cells (Qx oa n oc av ev lv c0 c1 c2 c3 0 0 0 0 (some ⟨b,0,none⟩)) 44 (0,0))) (hR:ZL w b T) (wG:w.ownsRow B 59 4 lv LS.length (LS.flatMap ZX)) (kE:Row w 105 uv was.length (was.flatMap Zt)) :
  Calls Tryz.prog 43 #[.pointer (some ⟨k,0,none⟩),uv,.int .i64 at'] w fun e w'=>e = .returned (.tuple #[])∧w'.ownsRow B 59 4 lv (RJ n at' T was LS).length ((RJ n at' T was LS).flatMap ZX)∧Fr w (fun j=>lv.ownBlock=some j) w w':=by
 obtain ⟨la,lc,oz,Ef⟩:=Row.Z6 wG;subst oz;obtain ⟨ua,uc,rfl⟩:=Row.form kE;have HK:Hid (∀ w',Fr w (fun j=>(Value.slice la LS.length lc).ownBlock=some j) w w'→w'.heap[k]?=some (.cells #[.slice oa n oc,av,ev,.slice la LS.length lc,.int .i64 c0,.int .i64 c1,.int .i64 c2,.int .i64 c3,.int .i64 0,.int .i64 0,.int .i64 0,.int .i64 0,.pointer (some ⟨b,0,none⟩)] 44 (0,0))):=fun w' hf=>(hf.block k (ZW O7) (fun e=>Za wG Zd _ _ _ e O7)).trans O7
 have HR:Hid (∀ w',Fr w (fun j=>(Value.slice la LS.length lc).ownBlock=some j) w w'→ZL w' b T):=fun w' hf=>Ul hR hf (Ru wG Zd)
 have HU:Hid (∀ w',Fr w (fun j=>(Value.slice la LS.length lc).ownBlock=some j) w w'→Row w' 105 (.slice ua was.length uc) was.length (was.flatMap Zt)):=fun w' hf=>Row.fr kE hf (Zw _) (Za wG Zd)
 have HL:=Zh wG;have wH:=(Row.Z6 wG).len;have hwl:=kE.len;rw [M4];clear O7 hR wG kE;go_enter Tryz.func43,Tryz.ntmps43;go_wp2_with fail
 go_loopw [11] (fun s11 w'=>∃ i:Nat,i≤was.length∧s11 = .int .i64 (i:Int)∧w'.ownsRow B 59 4 (.slice la LS.length lc) LS.length ((RJ n at' T (was.take i) LS).flatMap ZX)∧Fr w (fun j=>(Value.slice la LS.length lc).ownBlock=some j) w w') (fun s11 _=>was.length-(intOf s11).toNat)
 case atStart=>exact ⟨0,Zo,rfl,HL.o,Fr.refl _ _ _⟩
 case round=>
  obtain ⟨i,hi,rfl,YH,Wu⟩:=hrel;have T8:=Zh Wu;clear HL;by_cases qK:i<was.length
  ·obtain ⟨g',off',e1,VQ⟩:=Su Zt 4 (fun _=>rfl) (HU.o _ Wu) Zo;cases e1;have hx:was[i]?=some was[i]:=Vb qK;have VQ:=VQ i _ hx;have HT:=Zh (Rb hx);clear hx;generalize was[i]=x at *
   have LQ:=Zh (xd n at' T (was.take i) x LS);have hQl:=M4 n at' T (was.take i) LS;generalize RJ n at' T (was.take i) LS=Q at *
   have M3:wr.rangeAt g' (off'+i*4) (Ql x.peer x.source x.want x.ZQ):=fun m v hm=>(VQ m (by have h:=(List.getElem?_eq_some_iff.1 hm).1;simpa using h)).trans hm
   have hiI:(i:Int)<(was.length:Int):=OP.2 qK;have hz:=Z8 wr (.cells (Ql 0 0 0 false) 105);have JF:=setRow_heap _ _ _ (Ql x.peer x.source x.want x.ZQ) _ _ hz;have Rl:Hid (Below wr wr ((wr.alloc (.cells (Ql 0 0 0 false) 105)).setRow wr.heap.size (Ql x.peer x.source x.want x.ZQ))):=Z3 (Z' wr _) (Zw _) _;have Hv:Hid (Fr w (fun j=>(Value.slice la LS.length lc).ownBlock=some j) w ((wr.alloc (.cells (Ql 0 0 0 false) 105)).setRow wr.heap.size (Ql x.peer x.source x.want x.ZQ))):=Wu.trans (Fr.Z7 _ (Rl.o.mono Wu.size));have fk:=Zh (Yw YH Rl.o);have km:=HK.o _ Hv.o;clear VQ Wu YH T8 Rl;go_upto_region 3 with (first|(with_reducible refine Zj 105 (.tmp 13) rfl ?_;refine Zm M3 Tryz.underlying105 ?_)|(with_reducible refine ZU 105 (.tmp 7) (.tmp 14) rfl ?_;refine Zs hz ?_))
   clear hz M3;have lC:=ZW JF;generalize ((wr.alloc (.cells (Ql 0 0 0 false) 105)).setRow wr.heap.size (Ql x.peer x.source x.want x.ZQ))=w5 at *
   generalize wr.heap.size=kb at *
   have ug:=Zh JF;obtain ⟨xp,xs,xw,xz⟩:=x;have mA:=Zh (HR.o _ Hv.o);have CB:=Zh (Wv b T xp xs w5.drew (mA.o.below (YJ w5.heap.size w5).drew));have HOO:Hid (P8 n at' T Q ⟨xp,xs,xw,xz⟩=if 0≤T.Y9 xp xs then Q else Xx n at' (fun k=>decide (k=(xp,xs))) Q):=rfl;generalize P8 n at' T Q ⟨xp,xs,xw,xz⟩=Q2 at *
   generalize T.Y9 xp xs=sa at *
   have Zz:Hid (∀ w',Below w5 w5 w'→w'.cell? ⟨k,12,none⟩=some (.pointer (some ⟨b,0,none⟩))∧w'.cell? ⟨kb,0,none⟩=some (.int .i64 xp)∧w'.cell? ⟨kb,1,none⟩=some (.int .i64 xs)):=fun w' h=>by
    have a1:=(h.block _ (ZW km)).trans km;have a2:=(h.block _ lC).trans ug.o;exact ⟨Zc a1 12 rfl,Zc a2 0 rfl,Zc a2 1 rfl⟩
   clear JF;refine SX ?_;refine Z_.Zy (d:=8) (S:=(fun w'=>w'.cell? ⟨k,12,none⟩=some (.pointer (some ⟨b,0,none⟩))∧w'.cell? ⟨kb,0,none⟩=some (.int .i64 xp)∧w'.cell? ⟨kb,1,none⟩=some (.int .i64 xs))) Zk ?_ (fun Ye=>?_)
   ·(try dsimp only)
    exact Zz.o _ (YJ _ _).drew
   refine YP 0 (h:=YP 1 (h:=YP 2 (h:=YP 4 (h:=YP 6 (h:=YK 3 (h:=YK 5 (h:=YK 7 (h:=?_))))))));refine YR 8 (h:=fun K hK=>?_);go_simp;refine CB.o.mono ?_;rintro e w7 ⟨rfl,Mw⟩;have HBC:=Zh Mw;clear Mw;go_wp2_with fail
   refine Z_.Yk hK _ _ Zk ?_;clear hK K;try simp only [Z_.pt]
   refine YP 9 (h:=?_);refine Z_.YC Zk ?_ _;refine RA ?_;clear Zz CB;have IJ:Hid (Below w5 w5 w7):=(YJ w5.heap.size w5).drew.trans HBC.o;have kX:Hid (Fr w (fun j=>(Value.slice la LS.length lc).ownBlock=some j) w w7):=Hv.o.trans (Fr.Z7 _ (IJ.o.mono Hv.o.size));have HO7:=Zh (Yw fk.o IJ.o);have hx7:=(IJ.o.block _ lC).trans ug.o;have hkb7:=OS lC IJ.o.size;clear HBC IJ Hv fk ug km mA lC;by_cases hs:0≤sa
   ·have b1:decide (0≤sa)=true:=Wi hs;have Px:Hid (Q2=Q):=by show _=_;rw [HOO.o,ZR hs]
    clear HOO;go_wp2_with fail
    go_roundw
    case rel=>exact ⟨i+1,Zo,Zn,by rw [HT.o,LQ.o,Px.o];exact HO7.o,kX.o⟩
    case measure=>simp [intOf];omega
   have b1:decide (0≤sa)=false:=WI hs;have Px:Hid (Q2=Xx n at' (fun k=>decide (k=(xp,xs))) Q):=by show _=_;rw [HOO.o,Z4 hs]
   clear HOO;have GC:=HK.o _ kX.o;have k3:w7.cell? ⟨k,3,none⟩=some (.slice la LS.length lc):=Zc GC 3 rfl;clear GC;go_wp2_with fail
   go_loopw [30] (fun s30 w'=>∃ m:Nat,m≤LS.length∧s30 = .int .i64 (m:Int)∧w'.ownsRow B 59 4 (.slice la LS.length lc) LS.length ((Xc n at' (xp,xs) Q m).flatMap ZX)∧Fr w7 (fun j=>(Value.slice la LS.length lc).ownBlock=some j) w7 w') (fun s30 _=>LS.length-(intOf s30).toNat)
   case atStart=>exact ⟨0,Zo,rfl,by rw [Fq];exact HO7.o,Fr.refl _ _ _⟩
   case round=>
    obtain ⟨m,hm,rfl,YH,Wu⟩:=hrel;have HF8:Hid (Fr w (fun j=>(Value.slice la LS.length lc).ownBlock=some j) w wr):=kX.o.trans (Wu.mono kX.o.size (fun _ _ h=>h));have HFI:=Zh Wu;have Mq:=Zh YH;clear k3;by_cases MJ:m<LS.length
    ·have ko:=HK.o _ HF8.o;have r0:wr.cell? ⟨k,0,none⟩=some (.slice oa n oc):=Zc ko 0 rfl;have r3:wr.cell? ⟨k,3,none⟩=some (.slice la LS.length lc):=Zc ko 3 rfl;have hx8:=(Wu.block _ hkb7 (fun e=>Za HO7.o Zd _ _ _ e hx7)).trans hx7;have q0:wr.cell? ⟨kb,0,none⟩=some (.int .i64 xp):=Zc hx8 0 rfl;have q1:wr.cell? ⟨kb,1,none⟩=some (.int .i64 xs):=Zc hx8 1 rfl;obtain ⟨g,c9,cur,e9,-,JB⟩:=Mk YH Zo;cases e9;have hPl:=CX n at' (xp,xs) Q m;obtain ⟨y0,y1,y3⟩:=uS YH (m:=m) Zo;have fz:wr.frozen? ⟨g,m*4+3,none⟩=false:=ZO JB _;have yE:=Fp n at' (xp,xs) (Q:=Q) (m:=m) Zo;generalize hP:Xc n at' (xp,xs) Q m=P at *
     clear hP;have oO:=GS at' P m Zo;have kp:(m:Int)<(LS.length:Int):=OP.2 MJ;have BF:=Zh yE;have E2:=Zh oO;generalize P.getD m Wx=z at *
     obtain ⟨zp,zs,zb,zf⟩:=z;dsimp only [WB] at y0 y1 y3 BF E2;clear YH Wu ko hx8 JB oO yE;go_upto_region 7 with fail
     by_cases hc:(zp=xp∧zs=xs)∧zf=(n:Int)
     ·obtain ⟨⟨rfl,rfl⟩,rfl⟩:=hc;have mn:Hid (Xc n at' (zp,zs) Q (m+1)=P.set m {peer:=zp,source:=zs,MR:=zb,fin:=at'}):=by show _=_;rw [BF.o];exact ZR ⟨rfl,rfl⟩
      have HSW:Hid (∀ w',Below wr wr w'→(w'.setCell ⟨g,m*4+3,none⟩ (.int .i64 at')).ownsRow B 59 4 (.slice (some ⟨g,0,none⟩) LS.length lc) LS.length ((P.set m {peer:=zp,source:=zs,MR:=zb,fin:=at'}).flatMap ZX)):=fun w' hb=>by
       have h2:=Ph (Yw Mq.o hb) Zo (m*4+3) (.int .i64 at');rw [E2.o] at h2;exact h2
      clear BF;go_quiet (fail)
      go_wp2;go_roundw
      case rel=>
       refine ⟨m+1,Zo,Zn,?_,(HFI.o.trans (Fr.Z7 _ (below_drewN (YJ _ _) _ |>.mono HFI.o.size))).setCell (p:=⟨g,m*4+3,none⟩) (Wh rfl) _⟩;rw [mn.o];exact HSW.o _ (below_drewN (YJ _ _) _)
      case measure=>simp [intOf];omega
     ·have mn:Hid (Xc n at' (xp,xs) Q (m+1)=P):=by show _=_;rw [BF.o];exact Z4 (fun h=>hc ⟨by have h2:=h.2;rw [Prod.mk.injEq] at h2;exact h2,h.1⟩)
      clear BF E2;have Tn:zp≠xp∨(zp=xp∧zs≠xs)∨(zp=xp∧zs=xs∧zf≠(n:Int)):=by by_cases a:zp=xp <;> by_cases b:zs=xs <;> by_cases c:zf=(n:Int) <;> simp [a,b,c] <;> exact hc ⟨⟨a,b⟩,c⟩
      clear hc;rcases Tn with h|⟨rfl,h⟩|⟨rfl,rfl,h⟩
      case' inl=>have e1:(zp == xp)=false:=by rw [WR];exact h
      case' inr.inl=>have e1:(zs == xs)=false:=by rw [WR];exact h
      case' inr.inr=>have e1:(zf == (n:Int))=false:=by rw [WR];exact h
      all_goals
       clear h;go_quiet (fail)
       go_wp2;go_roundw
       case rel=>exact ⟨m+1,Zo,Zn,by rw [mn.o];exact Yw Mq.o (below_drewN (YJ _ _) _),HFI.o.trans (Fr.Z7 _ ((below_drewN (YJ _ _) _).mono HFI.o.size))⟩
       case measure=>simp [intOf];omega
    ·have hA:=Cz n at' (xp,xs) Q (m:=m) Zo;rw [hA] at YH;have ml:=Zh YH;clear YH Wu Mq hA;go_wp2;go_roundw
     case rel=>exact ⟨i+1,Zo,Zn,by rw [HT.o,LQ.o,Px.o];exact ml.o,HF8.o⟩
     case measure=>simp [intOf];omega
  ·have hT:was.take i=was:=FL Zo;rw [hT] at YH;have ml:=Zh YH;clear YH Wu hT;go_wp2;first|refine bodyPost_end (results_none Zr _ _ _) rfl ?_|refine VD (results_none Zr _ _ _) rfl ?_
   exact ⟨rfl,ml.o,T8.o⟩
open Go.Proofs.Rm (YF YB Room ZT Inv Wm YO OpV Xi)
open Go.Proofs.NM (Xz)
open Go.Proofs.Mem
end Go.Proofs.By
namespace Go.Proofs.By
open Go.RowKit Go.Proofs.Heap
open Go.Proofs.Rm (below_drewN Room Inv V8 OpV Xi YO SK TJ)
open Go.Proofs.NM (Xz)
open Go.Proofs.Mem
theorem rR {c:OJ} {n:Int} (h:c.Below n) (k:Int) {u:Int} (h0:0≤u) (h1:u≤8000):(c.add k u).Below (n+8001):=by
 obtain ⟨⟨a1,a2⟩,⟨b1,b2⟩,⟨c1,c2⟩,⟨d1,d2⟩⟩:=h;unfold OJ.add;refine ⟨?_,?_,?_,?_⟩ <;> dsimp only <;> split <;> omega
end Go.Proofs.By
