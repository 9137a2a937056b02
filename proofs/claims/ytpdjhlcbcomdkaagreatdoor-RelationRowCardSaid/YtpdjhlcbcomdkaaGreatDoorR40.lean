/- Part of a proof. -/
import Derived.Test.YtpdjhlcbcomdkaaGreatDoorR39
set_option linter.unusedVariables false
set_option linter.unusedSimpArgs false
set_option maxRecDepth 100000
set_option maxHeartbeats 16000000
open Go Go.Q Go.Qr
namespace Go.Proofs.By
open Go.RowKit Go.Proofs.Heap Go.Proofs
open Go.Proofs.Rm (Xi YO)
open Go.Proofs.NM (Xz)
open Go.Proofs.Mem
theorem Da (w:World):Calls Tryz.prog 86 (Qv 7 10) w fun e w'=>e = .returned (.slice (some ⟨w,0,none⟩) 17 17)∧w'=w.alloc (.cells (RD ay).toArray 5):=by
 go_enter Tryz.func86,Tryz.ntmps86;go_wp2;go_ret;exact ⟨rfl,rfl⟩
theorem zt (w:World):Calls Tryz.prog 54 #[] w fun e w'=>e = .returned (.slice (some ⟨w.heap.size+2,0,none⟩) 5 5)∧KH w' (.slice (some ⟨w.heap.size+2,0,none⟩) 5 5) (Gb w.heap.size)∧Below w w w':=by
 have C:=Zh Da;go_enter Tryz.func54,Tryz.ntmps54;go_wp2_with (go_at_call 86;refine (C.o _).mono ?_;rintro e w2 ⟨rfl,rfl⟩)
 exact Yx33
theorem ey {w:World} {v:Value} {L:List V7} (h:KH w v L):Xf w v L:=⟨h.row.r,fun y hy=>⟨(h.each y hy).1.r,(h.each y hy).2.1.r,(h.each y hy).2.2⟩⟩
theorem Ko {w:World} {e:TypeId} {a:Option Addr} {n c:Nat} {xs:List Value} (h:Row w e (.slice a n c) n xs) (hl:0<xs.length):∃ g o,a=some ⟨g,o,none⟩∧w.rangeAt g o xs:=by
 obtain ⟨g,o,cap,h1,_,_,_,h5⟩:=Row.open h hl;injection h1 with e1 _ _
 exact ⟨g,o,e1,fun m v hm=>(h5 m (List.getElem?_eq_some_iff.1 hm).1).trans hm⟩
theorem r8 (v:Value) (L:List V7) (w:World) (h:Xf w v L):Calls Tryz.prog 26 #[v] w fun e w'=>(∃ v',e = .returned v'∧Xf w' v' (L.take 60))∧w=w':=by
 obtain ⟨va,vc,rfl,hvc,zZ⟩:=h.form;obtain ⟨K,cH⟩:∃ K,K=min L.length 60:=⟨_,rfl⟩;have hK1:K≤L.length:=by omega
 have hKm:min (L.length:Int) 60=(K:Int):=by omega
 obtain ⟨vs,Uw,-,GF⟩:=Sp (P:=Tryz.prog) v_ va L.length vc K Zo
 have HO:Hid (Xf w (.slice vs K vc) (L.take 60)):=by
  have h2:=h.take hK1 GF
  have e:L.take K=L.take 60:=by
   rcases Nat.le_total L.length 60 with h3|h3
   ·rw [cH,Nat.min_eq_left h3,nv,FL h3]
   ·rw [cH,Nat.min_eq_right h3]
  rwa [e] at h2
 clear h GF cH;go_enter Tryz.func26,Tryz.ntmps26;go_wp2;go_ret;exact ⟨⟨_,rfl,HO.o⟩,rfl⟩
theorem jA (h:Nat):Vj (Gb h) bX=[⟨4,0,0,Xj 2 3,0,true⟩]:=by kernel_rfl
theorem jz (h:Nat):I3 (Gb h) bX 5=0:=by kernel_rfl
theorem jy (h:Nat):I3 (Gb h) bX 4 = -1:=by kernel_rfl
theorem nE (h:Nat):OB (Gb h) Wx 1=true:=by kernel_rfl
theorem AY (w:World) (hT:Xz w):Calls Tryz.prog 25 #[] w fun e w'=>e = .returned (.bool true)∧Below w w w':=by
 have CB:=Zh (zt w);have HT:Hid (∀ w',Below w w w'→Xz w'):=fun w' h=>Utf8Tabs_below hT h
 have CO:=Zh (fun w'=>Ls 2 3 w');clear hT;go_enter Tryz.func25,Tryz.ntmps25;go_upto_region 2 with (go_at_call 54;refine CB.o.mono ?_;rintro e w1 ⟨rfl,ho,YY⟩;have HO:=Zh (ey ho);have Vk:=Zh YY;clear ho YY)
 generalize (w.heap.size+2)=H2 at *
 have CA:=Zh (zi _ _ w1 (HT.o _ Vk.o) HO.o (by show 5≤256;decide));have CL:=Zh (fun (w':World) (hb:Below w1 w1 w')=>F7 _ _ w' (HT.o _ (Vk.o.trans (hb.mono Vk.o.size))) (HO.o.below hb) (by show 5≤256;decide));have CS:=Zh (fun (w':World) (hb:Below w1 w1 w')=>DK _ _ bX w' (HT.o _ (Vk.o.trans (hb.mono Vk.o.size))) (HO.o.below hb) (by show 5≤256;decide));have C5':=(fun (at':Int) (w':World) (hb:Below w1 w1 w')=>zk _ _ bX at' w' (HT.o _ (Vk.o.trans (hb.mono Vk.o.size))) (HO.o.below hb) (by show 5≤256;decide));have CQ':=(fun (w':World) (hb:Below w1 w1 w')=>F8 _ _ Wx 1 w' (HT.o _ (Vk.o.trans (hb.mono Vk.o.size))) (HO.o.below hb) (by show 5≤256;decide));have hlen:(Gb w.heap.size).length=5:=rfl;rw [hlen] at CA CL;rw [bAdms] at CA;simp only [cg] at CL;have hU:=jA w.heap.size;have hc5:=jz w.heap.size;have hc4:=jy w.heap.size;have hq:=nE w.heap.size;simp only [hU] at CS;have C5:=Zh (C5' 5);have C4:=Zh (C5' 4);have CQ:=Zh CQ';rw [hc5] at C5;rw [hc4] at C4;rw [hq] at CQ;clear C5' CQ' hc5 hc4 hq hU hlen HT CB HO;dsimp only [ZX,bX,Wx] at CS C5 C4 CQ;generalize Xj 2 3=OU at *
 go_upto_region 4 with (first|(go_at_call 24;refine CA.o.mono ?_;rintro e w2 ⟨⟨av,rfl,ha⟩,Y7⟩;obtain ⟨aa,ac,hav⟩:=Row.form ha;subst hav;have HA:=Zh ha;have X8:=Zh Y7;clear ha Y7)|(go_at_call 27;refine (CL.o _ X8.o).mono ?_;rintro e w3 ⟨⟨lv,rfl,hl⟩,VJ⟩;obtain ⟨la,lc,oz⟩:=Row.form hl;subst oz;have HL:=Zh hl;have Wc:=Zh (X8.o.trans (VJ.mono X8.o.size));have HA3:=Zh (Row.below HA.o VJ);clear hl VJ))
 obtain ⟨ga,oa,hga,hra⟩:=Ko HA3.o Zd;obtain ⟨gx,ox,hgx,hrx⟩:=Ko HL.o Zd;subst hga;subst hgx;have T5:w3.cell? ⟨ga,oa+16,none⟩=some (.int .i64 1):=hra 16 _ rfl;have Rp:w3.cell? ⟨ga,oa+16+2,none⟩=some (.int .i64 4):=hra 18 _ rfl;have x0:w3.cell? ⟨gx,ox,none⟩=some (.int .i64 2):=hrx 0 _ rfl;have x1:w3.cell? ⟨gx,ox+1,none⟩=some (.int .i64 3):=hrx 1 _ rfl;have x2:w3.cell? ⟨gx,ox+2,none⟩=some (.int .i64 3):=hrx 2 _ rfl;have x3:w3.cell? ⟨gx,ox+3,none⟩=some (.int .i64 5):=hrx 3 _ rfl;have X0:=Zh x0;have X1:=Zh x1;have X2:=Zh x2;have X3:=Zh x3;clear hra hrx;go_upto_region 7 with (go_at_call 29;refine (CS.o _ Wc.o).mono ?_;rintro e w6 ⟨⟨ev,rfl,he⟩,Ec⟩;obtain ⟨ea,ec,Ma⟩:=Row.form he;subst Ma;have HE:=Zh he;have HB36:=Zh Ec;have eO:=Zh (Wc.o.trans (Ec.mono Wc.o.size));clear he Ec)
 obtain ⟨ge,oe,hge,sH⟩:=Ko HE.o (by show 0<6;decide);subst hge;have rp:=Zh sH;clear T5 Rp x0 x1 x2 x3 sH
 have Zz:Hid (∀ w',Below w6 w6 w'→w'.cell? ⟨gx,ox,none⟩=some (.int .i64 2)∧w'.cell? ⟨gx,ox+1,none⟩=some (.int .i64 3)∧w'.cell? ⟨gx,ox+2,none⟩=some (.int .i64 3)∧w'.cell? ⟨gx,ox+3,none⟩=some (.int .i64 5)∧w'.cell? ⟨ge,oe,none⟩=some (.int .i64 4)∧w'.cell? ⟨ge,oe+1,none⟩=some (.int .u16 0)∧w'.cell? ⟨ge,oe+2,none⟩=some (.int .u32 0)∧w'.cell? ⟨ge,oe+3,none⟩=some (.int .u32 OU)∧w'.cell? ⟨ge,oe+4,none⟩=some (.int .u16 0)∧w'.cell? ⟨ge,oe+5,none⟩=some (.bool true)):=fun w' hb=>
  have VJ:=HB36.o.trans (hb.mono HB36.o.size)
  ⟨Yp X0.o VJ,Yp X1.o VJ,Yp X2.o VJ,Yp X3.o VJ,Yp (rp.o 0 _ rfl) hb,Yp (rp.o 1 _ rfl) hb,Yp (rp.o 2 _ rfl) hb,Yp (rp.o 3 _ rfl) hb,Yp (rp.o 4 _ rfl) hb,Yp (rp.o 5 _ rfl) hb⟩
 refine SX ?_;refine Z_.Zy (d:=51) (S:=(fun w'=>w'.cell? ⟨gx,ox,none⟩=some (.int .i64 2)∧w'.cell? ⟨gx,ox+1,none⟩=some (.int .i64 3)∧w'.cell? ⟨gx,ox+2,none⟩=some (.int .i64 3)∧w'.cell? ⟨gx,ox+3,none⟩=some (.int .i64 5)∧w'.cell? ⟨ge,oe,none⟩=some (.int .i64 4)∧w'.cell? ⟨ge,oe+1,none⟩=some (.int .u16 0)∧w'.cell? ⟨ge,oe+2,none⟩=some (.int .u32 0)∧w'.cell? ⟨ge,oe+3,none⟩=some (.int .u32 OU)∧w'.cell? ⟨ge,oe+4,none⟩=some (.int .u16 0)∧w'.cell? ⟨ge,oe+5,none⟩=some (.bool true))) ZB ?_ (fun _=>?_)
 ·(try dsimp only)
  exact Zz.o _ (YJ _ _).drew
 refine YP 0 (h:=YP 1 (h:=YP 3 (h:=YQ 2 [48,45,40,37,32,28,23,17,10,5,4] (h:=YP 4 (h:=YP 5 (h:=YP 6 (h:=YP 7 (h:=YP 8 (h:=YP 9 (h:=YP 10 (h:=YP 11 (h:=YP 12 (h:=YP 13 (h:=YQ 14 [48,45,40,37,32,28,23,17,16,15] (h:=YP 15 (h:=YP 16 (h:=YP 17 (h:=YP 18 (h:=YP 19 (h:=YP 20 (h:=YQ 21 [48,45,40,37,32,28,23,22] (h:=YP 22 (h:=YP 23 (h:=YP 24 (h:=YP 25 (h:=YP 26 (h:=YQ 27 [48,45,40,37,32,31,30] (h:=?_))))))))))))))))))))))))))));refine YR 28 (h:=fun K hK=>?_);go_simp;refine (CO.o _).mono ?_;rintro e w' ⟨rfl,rfl⟩;go_wp2_with fail
 refine Z_.Zb hK _ _ ?_ (fun _=>?_)
 ·(try dsimp only)
  exact Zz.o _ bA
 clear hK K;try simp only [Z_.pt]
 refine YP 29 (h:=YP 30 (h:=YP 31 (h:=YP 32 (h:=YP 33 (h:=YP 34 (h:=YP 35 (h:=YQ 36 [48,45,40,37] (h:=?_))))))));refine YR 37 (h:=fun K hK=>?_);go_simp;refine (C5.o _ (eO.o.trans ((YJ w6.heap.size w6).drew.mono eO.o.size))).mono ?_;rintro e w7 ⟨rfl,Mw⟩;have IJ:=Zh ((YJ w6.heap.size w6).drew.trans Mw);clear Mw;go_wp2_with fail
 refine Z_.Zb hK _ _ ?_ (fun _=>?_)
 ·(try dsimp only)
  exact Zz.o _ bA
 clear hK K;try simp only [Z_.pt]
 refine YP 38 (h:=YP 39 (h:=YP 40 (h:=YP 41 (h:=YP 42 (h:=YP 43 (h:=YQ 44 [48,45] (h:=?_)))))));refine YR 45 (h:=fun K hK=>?_);go_simp;refine (C4.o _ (eO.o.trans (IJ.o.mono eO.o.size))).mono ?_;rintro e w8 ⟨rfl,qG⟩;have kU:=Zh (IJ.o.trans (qG.mono IJ.o.size));clear qG;go_wp2_with fail
 refine Z_.Zb hK _ _ ?_ (fun _=>?_)
 ·(try dsimp only)
  exact Zz.o _ bA
 clear hK K;try simp only [Z_.pt]
 refine YP 46 (h:=YP 47 (h:=YP 48 (h:=YP 49 (h:=YP 50 (h:=?_)))));refine YR 51 (h:=fun K hK=>?_);go_simp;refine (CQ.o _ (eO.o.trans (kU.o.mono eO.o.size))).mono ?_;rintro e w9 ⟨rfl,qH⟩;have ql:=Zh (kU.o.trans (qH.mono kU.o.size));clear qH;go_wp2_with fail
 refine Z_.Yk hK _ _ ZB ?_;clear hK K;try simp only [Z_.pt]
 refine YP 52 (h:=YP 53 (h:=?_));refine Z_.YC ZB ?_ _;refine RA ?_;go_wp2_with fail
 go_ret;exact ⟨rfl,Vk.o.trans ((eO.o.trans (ql.o.mono eO.o.size)).mono Vk.o.size)⟩
open Go.Proofs.Rm (below_drewN)
end Go.Proofs.By
namespace Go.Proofs.By
open Go.RowKit Go.Proofs.Heap Go.Proofs
open Go.Proofs.Rm (below_drewN)
open Go.Proofs.NM (Xz)
open Go.Proofs.Mem
def Oo (x:Zu) (S:List Hs) (i:Nat):Int:=if i=0 then x.MR else (S.getD (i-1) Sk).event
theorem tU {L:List V7} {x:Zu} (hx:x∈Yv L L.length L.length) {q:Nat} (h:Wa L x q=true):Kv L x (q:Int)=(Yi L x q).want∧I3 L x (q:Int)=(Yi L x q).cur∧OB L x (q:Int)=(Yi L x q).quiet:=by
 have hl:QH x (q:Int)=true:=by unfold Wa at h;rw [UR,UR] at h;exact h.1.1
 have ht:there x (q:Int)=true:=by
  unfold QH at hl;unfold there;rw [UR,Pz,Pz] at hl ⊢;exact ⟨hl.1,Zo⟩
 unfold Kv I3 OB;rw [ZR hx,ZR hx,ZR hx,ZR ht,ZR ht,ZR ht,Wz];exact ⟨rfl,rfl,rfl⟩
structure RS1 (L:List V7) (x:Zu) (S:List Hs) (i q:Nat) (s:Hs):Prop where
 ev:s.event=(q:Int)
 rg:q<L.length∧x.MR<q∧(q:Int)<x.fin
 seq:s.seq=(i:Int)
 YE:s.YE=Xj x.peer x.source
 quiet:OB L x (q:Int)=false
 first:i=0→s.sw=true
 last:∃ lq:Int,Oo x S i=lq∧lq<q
 ds:(QE L q).ds=(Z5 L q).WJ∧(QE L q).pk=(Z5 L q).XW
 opn:s.sw=true→(QE L q).ds.key=true∧(QE L q).ds.start=true∧Kv L x (q:Int)=(QE L q).ds.ZH
 goes:s.sw=false→I3 L x (q:Int)=(QE L q).ds.ZH∧∃ lq:Nat,lq<L.length∧Oo x S i=(lq:Int)∧0<QO (QE L q).pk.seq (QE L lq).pk.seq
theorem tL {L:List V7} (hL:L.length≤60) {x:Zu} (hx:x∈Yv L L.length L.length) {i:Nat} {s:Hs} (hs:(Vj L x)[i]?=some s):i<60∧∃ q,RS1 L x (Vj L x) i q s:=by
 have hS:Vj L x=(UZ L x L.length).o:=by unfold Vj;rw [ZR hx]
 rw [hS] at hs ⊢;have h:=Hb L x L.length i s hs;have UO:=Hb L x L.length;have Wq:=Pp L x L.length;have hi:=(List.getElem?_eq_some_iff.1 hs).1;have qK:=Wq.len;generalize (UZ L x L.length).o=S at *
 refine ⟨Zo,s.event.toNat,?_⟩;obtain ⟨q,hq⟩:=Rf h.ev.1;have hqt:s.event.toNat=q:=by rw [hq];exact Wz q
 have yC:=h.pk;have hqu:=h.quiet;have GD:=h.opn;have uK:=h.goes;rw [hqt] at yC hqu GD uK ⊢;have hkind:(Z5 L q).XC.kind=1:=by unfold Wa at yC;rw [UR,UR] at yC;exact of_decide_eq_true yC.1.2
 have hds:=zI hkind;have hli:x.MR<(q:Int)∧(q:Int)<x.fin:=by unfold Wa QH at yC;simp only [UR,Pz] at yC;exact yC.1.1
 obtain ⟨w1,w2,w3⟩:=tU hx yC;have wJ:=h.ev.2
 have cT:i=0→s.sw=true:=fun h0=>by
  cases h_:s.sw with
  | true=>rfl
  | false=>have:=(h.goes h_).1;omega
 refine ⟨hq,⟨Zo,hli⟩,by rw [h.seq,IntKind.wrap_u16];omega,h.YE,by rw [w3];exact hqu,cT,?_,hds,fun h_=>?_,fun h_=>?_⟩
 ·refine ⟨_,rfl,?_⟩;unfold Oo;by_cases h0:i=0
  ·rw [ZR h0];exact hli.1
  ·rw [Z4 h0];have:=h.last Zo;omega
 ·have ho:=GD h_;unfold VY at ho;simp only [UR,Pz] at ho;rw [hds.1,w1];exact ⟨ho.1.1.1.2,ho.1.1.2,ho.1.2.symm⟩
 ·obtain ⟨g0,g1,g2⟩:=uK h_;have hlast:=h.last g0;have hp:(S[i-1]?)=some (S.getD (i-1) Sk):=by rw [SC,Vb Zo];rfl
  have hr:=UO (i-1) _ hp;obtain ⟨lq,hlq⟩:=Rf hr.ev.1;have PV:(S.getD (i-1) Sk).event.toNat=lq:=by rw [hlq];exact Wz lq
  have kq:=hr.pk;rw [PV] at g2 kq;have Ee:(Z5 L lq).XC.kind=1:=by unfold Wa at kq;rw [UR,UR] at kq;exact of_decide_eq_true kq.1.2
  rw [hds.1,hds.2,w2];refine ⟨g1.symm,lq,by have:=hr.ev.2;omega,?_,by rw [(zI Ee).2];exact g2⟩;unfold Oo;rw [Z4 Zo,hlq]
theorem Iw (v:Value) (L0:List V7) (w:World) (hT:Xz w) (hv:Xf w v L0):Calls Tryz.prog 13 #[v] w fun e w'=>e = .returned (.bool true)∧Below w w w':=by
 have CS:=Zh (AY w hT);have CF:=Zh (fun (w':World) (h:Below w w w')=>r8 v L0 w' (hv.below h));have HT:Hid (∀ w',Below w w w'→Xz w'):=fun w' h=>Utf8Tabs_below hT h
 have hL:(L0.take 60).length≤60:=by rw [S4];omega
 generalize L0.take 60=L at *
 have CY:=Zh (fun (v':Value) (w':World) (hT:Xz w') (h:Xf w' v' L)=>iU v' L w' hT h Zo);have CL:=Zh (fun (v':Value) (w':World) (hT:Xz w') (h:Xf w' v' L)=>F7 v' L w' hT h Zo);have CSE:=Zh (fun (v':Value) (x:Zu) (w':World) (hT:Xz w') (h:Xf w' v' L)=>DK v' L x w' hT h Zo);have CW:=Zh (fun (v':Value) (x:Zu) (a:Int) (w':World) (hT:Xz w') (h:Xf w' v' L)=>rC v' L x a w' hT h Zo);have CC:=Zh (fun (v':Value) (x:Zu) (a:Int) (w':World) (hT:Xz w') (h:Xf w' v' L)=>zk v' L x a w' hT h Zo);have CQ:=Zh (fun (v':Value) (x:Zu) (a:Int) (w':World) (hT:Xz w') (h:Xf w' v' L)=>F8 v' L x a w' hT h Zo);clear hT hv;go_enter Tryz.func13,Tryz.ntmps13
 go_wp2_with (first|(go_at_call 25;refine CS.o.mono ?_;rintro e w1 ⟨rfl,YY⟩;have V6:=Zh YY;clear YY)|(go_at_call 26;refine (CF.o _ V6.o).mono ?_;rintro e w' ⟨⟨v',rfl,ho⟩,rfl⟩;obtain ⟨va,vc,kC,hvc,zZ⟩:=Xf.form ho;subst kC;have HO:=Zh ho;clear ho)|(go_at_call 17;refine (CY.o _ _ (HT.o _ V6.o) HO.o).mono ?_;rintro e w2 ⟨k,rb,vs,vc2,av,ev,lv,E,T,RY,epY,rfl,Mz⟩;have X8:=Zh Mz.Zg;have ZY:=Row.Z6 Mz.st.B_;obtain ⟨ea,ec,Ma⟩:=Row.form ZY;subst Ma;have qA:=Zh Mz;clear Mz ZY)|(go_at_call 27;refine (CL.o _ _ (HT.o _ (V6.o.trans (X8.o.mono V6.o.size))) (HO.o.below X8.o)).mono ?_;rintro e w3 ⟨⟨lvv,rfl,hlr⟩,VJ⟩;obtain ⟨la,lc,hl⟩:=Row.form hlr;subst hl;have HLR:=Zh hlr;have mE:=Zh (qA.o.below VJ);have Wc:=Zh (X8.o.trans (VJ.mono X8.o.size));clear hlr VJ))
 have iJ:=Zh (HO.o.below Wc.o);have ld:Hid (∀ w',Below w3 w3 w'→Xz w'):=fun w' h=>HT.o _ (V6.o.trans ((Wc.o.trans (h.mono Wc.o.size)).mono V6.o.size))
 have DA:=Zh mE.o.st.Y8;have DD:=Zh (Row.Z6 mE.o.st.B_);have HEE:=Zh mE.o.st.each;have HEL:=Zh mE.o.B_;have im:Hid (Below w w w3):=V6.o.trans (Wc.o.mono V6.o.size);have aT:Hid (E.length=L.length):=by have h2:=congrArg List.length HEL.o;rw [TB] at h2;show _=_;rw [h2];unfold I4;rw [TB,List.length_range]
 have hlb:=P5 L L.length L.length;have yq:Hid (∀ z∈Yv L L.length L.length,0≤z.MR∧z.MR<L.length∧z.fin≤L.length):=TF L L.length L.length (Zw _);have mA:Hid (∀ x∈Yv L L.length L.length,∀ (i:Nat) (s:Hs),(Vj L x)[i]?=some s→i<60∧∃ q,RS1 L x (Vj L x) i q s):=fun x hx i s hs=>tL hL hx hs
 have Ky:Hid (∀ x,(Vj L x).length≤60):=fun x=>by
  unfold Vj;split
  ·exact PO (Pp L x L.length).len hL
  ·exact Tk _
 clear CS CF CY CL HO HT qA mE V6 X8 Wc;generalize Yv L L.length L.length=LS at *
 go_loopw [19] (fun s19 w'=>∃ m:Nat,m≤LS.length∧s19 = .int .i64 (m:Int)∧Below w3 w3 w') (fun s19 _=>LS.length-(intOf s19).toNat)
 case atStart=>exact ⟨0,Zo,rfl,YJ _ _⟩
 case round=>
  obtain ⟨m,hm,rfl,VX⟩:=hrel;have HBM:=Zh VX;by_cases MJ:m<LS.length
  ·obtain ⟨gl,ol,el,VQ⟩:=Su ZX 4 (fun _=>rfl) (HLR.o.below VX) Zo;subst el;have hx:LS[m]?=some LS[m]:=Vb MJ;have VQ:=VQ m _ hx;have fg:=Zh (yq.o LS[m] (PA MJ));have HRX:=Zh (mA.o LS[m] (PA MJ));have Uw:=Ky.o LS[m];clear hx;generalize LS[m]=x at *
   obtain ⟨xp,xs,xb,xf⟩:=x;dsimp only at fg;have M3:wr.rangeAt gl (ol+m*4) (Qc xp xs xb xf):=fun m' v' qM=>(VQ m' (by have h:=(List.getElem?_eq_some_iff.1 qM).1;simpa using h)).trans qM
   have kp:(m:Int)<(LS.length:Int):=OP.2 MJ;have hz:=Z8 wr (.cells (Qc 0 0 0 0) 59);have Rh:=setRow_heap _ _ _ (Qc xp xs xb xf) _ _ hz;have Ux:Hid (Below w3 w3 ((wr.alloc (.cells (Qc 0 0 0 0) 59)).setRow wr.heap.size (Qc xp xs xb xf))):=VX.trans ((Z3 (Z' wr _) (Zw _) _).mono VX.size);clear VQ VX;go_upto_region 8 with (first|(with_reducible refine Zj 59 (.tmp 21) rfl ?_;refine Zm M3 Tryz.underlying59 ?_)|(with_reducible refine ZU 59 (.tmp 5) (.tmp 22) rfl ?_;refine Zs hz ?_))
   clear hz M3;generalize ((wr.alloc (.cells (Qc 0 0 0 0) 59)).setRow wr.heap.size (Qc xp xs xb xf))=w4 at *
   generalize wr.heap.size=kx at *
   have LR:=Zh Rh;have x2:w4.cell? ⟨kx,2,none⟩=some (.int .i64 xb):=Zc Rh 2 rfl;have CSX:=Zh (CSE.o (.slice va L.length vc) ⟨xp,xs,xb,xf⟩ w4 (ld.o _ Ux.o) (iJ.o.below Ux.o));have HLA:Hid (Oo ⟨xp,xs,xb,xf⟩ (Vj L ⟨xp,xs,xb,xf⟩) 0=xb):=rfl;go_wp2_with (first|(with_reducible refine Zj 59 (.tmp 5) rfl ?_;refine Zl Rh Tryz.underlying59 ?_)|(go_at_call 29;refine CSX.o.mono ?_;rintro e w5 ⟨⟨sv,rfl,dL⟩,MI⟩;obtain ⟨sa,sc,hs⟩:=Row.form dL;subst hs;have HSR:=Zh dL;have Rl:Hid (Below w3 w3 w5):=Ux.o.trans (MI.mono Ux.o.size);have ug:=Zh ((MI.block _ (ZW Rh)).trans Rh);clear dL MI))
   clear CSX x2 Rh LR Ux;generalize Vj L ⟨xp,xs,xb,xf⟩=S at *
   go_loopw [6,29] (fun s6 s29 w'=>∃ i:Nat,i≤S.length∧s29 = .int .i64 (i:Int)∧s6 = .int .i64 (Oo ⟨xp,xs,xb,xf⟩ S i)∧Below w5 w5 w') (fun _ s29 _=>S.length-(intOf s29).toNat)
   case atStart=>exact ⟨0,Zo,rfl,by rw [HLA.o],YJ _ _⟩
   case round=>
    obtain ⟨i,hi,rfl,rfl,VX⟩:=hrel;have HBI:=Zh VX;by_cases qK:i<S.length
    ·obtain ⟨gs,os,es,VQ⟩:=Su Vp 6 (fun _=>rfl) (HSR.o.below VX) Zo;subst es;have hs:S[i]?=some S[i]:=Vb qK;have VQ:=VQ i _ hs;obtain ⟨hi60,q,Uc⟩:=HRX.o i _ hs
     have qW:Hid (Oo ⟨xp,xs,xb,xf⟩ S (i+1)=(q:Int)):=by
      show _=_;unfold Oo;rw [Z4 Zo,Nat.add_sub_cancel,SC,hs];exact Uc.ev
     clear hs;generalize S[i]=s at *
     obtain ⟨sev,sq,tm,sr,fr,sw⟩:=s;obtain ⟨h1,h2,h3,h4,h5,h6,h7,h8,h9,Bf⟩:=Uc;dsimp only at h1 h2 h3 h4 h6 h9 Bf;subst h1;subst h3;subst h4;obtain ⟨hq1,wJ,gY⟩:=h2;obtain ⟨lq,hlq,PV⟩:=h7;have HQF:=Zh h5;have aZ:=Zh h9;have eW:=Zh Bf;have HFI:=Zh h6;obtain ⟨oo,hoo⟩:∃ oo,oo=Xj xp xs:=⟨_,rfl⟩;have CO:Hid (∀ w',Calls Tryz.prog 37 (Qz xp xs) w' fun e w2=>e = .returned (.int .u32 oo)∧w'=w2):=fun w'=>by rw [hoo];exact Ls xp xs w'
     rw [←hoo] at VQ;dsimp only [Vp] at VQ;have M3:wr.rangeAt gs (os+i*6) (Qp (q:Int) (i:Int) tm oo fr sw):=fun m' v' qM=>(VQ m' (by have h:=(List.getElem?_eq_some_iff.1 qM).1;simpa using h)).trans qM
     have hiI:(i:Int)<(S.length:Int):=OP.2 qK;have hz:=Z8 wr (.cells (Qp 0 0 0 0 0 false) 70);have Cq:=setRow_heap _ _ _ (Qp (q:Int) (i:Int) tm oo fr sw) _ _ hz;have Bq:Hid (Below wr wr ((wr.alloc (.cells (Qp 0 0 0 0 0 false) 70)).setRow wr.heap.size (Qp (q:Int) (i:Int) tm oo fr sw))):=Z3 (Z' wr _) (Zw _) _;have IJ:Hid (Below w5 w5 ((wr.alloc (.cells (Qp 0 0 0 0 0 false) 70)).setRow wr.heap.size (Qp (q:Int) (i:Int) tm oo fr sw))):=VX.trans (Bq.o.mono VX.size);have yI:Hid (Below w3 w3 ((wr.alloc (.cells (Qp 0 0 0 0 0 false) 70)).setRow wr.heap.size (Qp (q:Int) (i:Int) tm oo fr sw))):=Rl.o.trans (IJ.o.mono Rl.o.size);have hx7:=(IJ.o.block _ (ZW ug.o)).trans ug.o;have GC:=(yI.o.block _ (ZW DA.o)).trans DA.o;have hE7:=Row.below DD.o yI.o;clear VQ VX h5 h6 h8 h9 Bf hoo;generalize hlS:Oo ⟨xp,xs,xb,xf⟩ S i=ls at *
     subst hlq;have HLSS:=Zh hlS;clear hlS;go_upto_region 12 with (first|(with_reducible refine Zj 70 (.tmp 32) rfl ?_;refine Zm M3 Tryz.underlying70 ?_)|(with_reducible refine ZU 70 (.tmp 8) (.tmp 33) rfl ?_;refine Zs hz ?_))
     clear hz M3 Bq;generalize ((wr.alloc (.cells (Qp 0 0 0 0 0 false) 70)).setRow wr.heap.size (Qp (q:Int) (i:Int) tm oo fr sw))=w7 at *
     generalize wr.heap.size=ks at *
     have bj:Hid (∀ w',Below w7 w7 w'→Calls Tryz.prog 33 (Jn va L.length vc (Qc xp xs xb xf) (q:Int)) w' fun e w2=>e = .returned (.bool false)∧Below w' w' w2):=fun w' h=>by
      have hb:=yI.o.trans (h.mono yI.o.size);have:=CQ.o (.slice va L.length vc) ⟨xp,xs,xb,xf⟩ (q:Int) w' (ld.o _ hb) (iJ.o.below hb);rw [HQF.o] at this;exact this
     obtain ⟨ge,oe,ee,hrE⟩:=Su Xu 17 (fun _=>rfl) hE7 (by rw [aT.o];omega);subst ee;have d1:decide ((q:Int)≤ls)=false:=WI Zo;have d2:decide (xf≤(q:Int))=false:=WI Zo;have d3:decide ((E.length:Int)≤(q:Int))=false:=WI (by rw [aT.o];omega);have d3b:decide (E.length≤q)=false:=WI (by rw [aT.o];omega);have d4:IntKind.u16.wrap (i:Int)=(i:Int):=by rw [IntKind.wrap_u16];omega
     have bp:=Zh Cq;have fq:=Zh hx7;have HK7:=Zh GC
     have Zz:Hid (∀ w',Below w7 w7 w'→w'.heap[kx]?=some (.cells (Qc xp xs xb xf) 59 (0,0))∧w'.cell? ⟨ks,0,none⟩=some (.int .i64 (q:Int))∧w'.cell? ⟨kx,3,none⟩=some (.int .i64 xf)∧w'.cell? ⟨k,2,none⟩=some (.slice (some ⟨ge,oe,none⟩) E.length ec)∧w'.cell? ⟨ks,1,none⟩=some (.int .u16 (i:Int))∧w'.cell? ⟨ks,3,none⟩=some (.int .u32 oo)∧w'.cell? ⟨kx,0,none⟩=some (.int .i64 xp)∧w'.cell? ⟨kx,1,none⟩=some (.int .i64 xs)∧w'.cell? ⟨ks,5,none⟩=some (.bool sw)):=fun w' h=>by
      have a1:=(h.block _ (ZW fq.o)).trans fq.o;have a2:=(h.block _ (ZW bp.o)).trans bp.o;have a3:=(h.block _ (ZW HK7.o)).trans HK7.o;exact ⟨a1,Zc a2 0 rfl,Zc a1 3 rfl,Zc a3 2 rfl,Zc a2 1 rfl,Zc a2 3 rfl,Zc a1 0 rfl,Zc a1 1 rfl,Zc a2 5 rfl⟩
     clear Cq hx7 GC hE7;go_cut [89] (fun s89 wx=>s89 = .bool false∧Below w7 w7 wx)
     case first=>as_aux_lemma=>
      by_cases hi0:i=0
      ·have h_:=HFI.o hi0;subst h_;subst hi0;refine SX ?_;refine Z_.Zy (d:=55) (S:=(fun w'=>w'.heap[kx]?=some (.cells (Qc xp xs xb xf) 59 (0,0))∧w'.cell? ⟨ks,0,none⟩=some (.int .i64 (q:Int))∧w'.cell? ⟨kx,3,none⟩=some (.int .i64 xf)∧w'.cell? ⟨k,2,none⟩=some (.slice (some ⟨ge,oe,none⟩) E.length ec)∧w'.cell? ⟨ks,1,none⟩=some (.int .u16 ((0:Nat):Int))∧w'.cell? ⟨ks,3,none⟩=some (.int .u32 oo)∧w'.cell? ⟨kx,0,none⟩=some (.int .i64 xp)∧w'.cell? ⟨kx,1,none⟩=some (.int .i64 xs)∧w'.cell? ⟨ks,5,none⟩=some (.bool true))) Zk ?_ (fun Ye=>?_)
       ·exact jk
       refine YP 0 (h:=YP 2 (h:=YQ 1 [49,43,40,37,29,21,11,4,3] (h:=YP 3 (h:=YP 4 (h:=YP 5 (h:=YP 7 (h:=YQ 6 [49,43,40,37,29,21,11,10,9] (h:=YQ 8 [49,43,40,37,29,21,11,10,9] (h:=YP 9 (h:=YP 10 (h:=YP 11 (h:=YP 12 (h:=YP 14 (h:=YP 15 (h:=YP 16 (h:=YQ 13 [49,43,40,37,29,21,20,19] (h:=YQ 17 [49,43,40,37,29,21,20,19,18] (h:=YP 18 (h:=YP 19 (h:=YP 20 (h:=YP 21 (h:=YP 22 (h:=YP 23 (h:=YP 25 (h:=YP 26 (h:=YQ 24 [49,43,40,37,29,28,27] (h:=YP 27 (h:=YP 28 (h:=YP 29 (h:=YP 30 (h:=YP 31 (h:=YP 33 (h:=YP 35 (h:=YQ 32 [49,43,40,39,38] (h:=YQ 34 [49,43,40,37] (h:=YQ 36 [49,43,40,37] (h:=?_)))))))))))))))))))))))))))))))))))));refine YR 37 (h:=fun K hK=>?_);go_simp;refine (CO.o _).mono ?_;rintro e w8 ⟨rfl,rfl⟩;go_wp2_with fail
       refine Z_.Zb hK _ _ ?_ (fun XU=>?_)
       ·exact jk
       clear hK K;try simp only [Z_.pt]
       refine YP 38 (h:=YP 39 (h:=YP 40 (h:=YP 41 (h:=YP 42 (h:=YP 43 (h:=YP 44 (h:=YQ 45 [49,48,47,46] (h:=YP 46 (h:=YP 47 (h:=YP 48 (h:=YP 49 (h:=YP 50 (h:=YP 52 (h:=?_))))))))))))));exact Yt3
      ·have hi1:((i:Int) == 0)=false:=by rw [WR];omega
       refine SX ?_;refine Z_.Zy (d:=55) (S:=(fun w'=>w'.heap[kx]?=some (.cells (Qc xp xs xb xf) 59 (0,0))∧w'.cell? ⟨ks,0,none⟩=some (.int .i64 (q:Int))∧w'.cell? ⟨kx,3,none⟩=some (.int .i64 xf)∧w'.cell? ⟨k,2,none⟩=some (.slice (some ⟨ge,oe,none⟩) E.length ec)∧w'.cell? ⟨ks,1,none⟩=some (.int .u16 (i:Int))∧w'.cell? ⟨ks,3,none⟩=some (.int .u32 oo)∧w'.cell? ⟨kx,0,none⟩=some (.int .i64 xp)∧w'.cell? ⟨kx,1,none⟩=some (.int .i64 xs)∧w'.cell? ⟨ks,5,none⟩=some (.bool sw))) Zk ?_ (fun Ye=>?_)
       ·exact jk
       refine YP 0 (h:=YP 2 (h:=YQ 1 [49,43,40,37,29,21,11,4,3] (h:=YP 3 (h:=YP 4 (h:=YP 5 (h:=YP 7 (h:=YQ 6 [49,43,40,37,29,21,11,10,9] (h:=YQ 8 [49,43,40,37,29,21,11,10,9] (h:=YP 9 (h:=YP 10 (h:=YP 11 (h:=YP 12 (h:=YP 14 (h:=YP 15 (h:=YP 16 (h:=YQ 13 [49,43,40,37,29,21,20,19] (h:=YQ 17 [49,43,40,37,29,21,20,19,18] (h:=YP 18 (h:=YP 19 (h:=YP 20 (h:=YP 21 (h:=YP 22 (h:=YP 23 (h:=YP 25 (h:=YP 26 (h:=YQ 24 [49,43,40,37,29,28,27] (h:=YP 27 (h:=YP 28 (h:=YP 29 (h:=YP 30 (h:=YP 31 (h:=YP 33 (h:=YP 35 (h:=YQ 32 [49,43,40,39,38] (h:=YQ 34 [49,43,40,37] (h:=YQ 36 [49,43,40,37] (h:=?_)))))))))))))))))))))))))))))))))))));refine YR 37 (h:=fun K hK=>?_);go_simp;refine (CO.o _).mono ?_;rintro e w8 ⟨rfl,rfl⟩;go_wp2_with fail
       refine Z_.Zb hK _ _ ?_ (fun XU=>?_)
       ·exact jk
       clear hK K;try simp only [Z_.pt]
       refine YP 38 (h:=YP 39 (h:=YP 40 (h:=YP 41 (h:=YP 42 (h:=YP 43 (h:=YT 44 (h:=YT 45 (h:=YT 46 (h:=YP 47 (h:=YP 48 (h:=YP 49 (h:=YP 50 (h:=YP 52 (h:=?_))))))))))))));exact Yt3
     case rest=>
      obtain ⟨w8,rfl⟩:∃ W:World,W=wc:=⟨_,rfl⟩;obtain ⟨rfl,qG⟩:=hcut;have kU:=Zh qG;have HB83:Hid (Below w3 w3 w8):=yI.o.trans (qG.mono yI.o.size);have dG:q<E.length:=by rw [aT.o];omega
      have hqE:E[q]?=some E[q]:=Vb dG
      have HED:Hid (E[q].e=QE L q):=by
       have h2:=HEL.o;have h3:(E.map (·.e))[q]?=some E[q].e:=by rw [List.getElem?_map,hqE];rfl
       rw [h2] at h3;unfold I4 at h3;rw [List.getElem?_map,List.getElem?_range Zo] at h3;exact (Option.some.inj h3).symm
      have sH:=(HEE.o E[q] (PA _)).below HB83.o;have hce:=hrE q _ hqE;clear hqE;generalize E[q]=X at *
      obtain ⟨⟨ca,cc,h1⟩,⟨vY,vZ,h2⟩,⟨pa,pc,h3⟩⟩:=Vy.form sH.p;obtain ⟨ia,ic,h4⟩:=YI.form sH.i;obtain ⟨XE,cv,xv,pv,iv⟩:=X;dsimp only at h1 h2 h3 h4 HED;subst h1;subst h2;subst h3;subst h4;have HEDo:=HED.o;subst HEDo;clear sH;dsimp only [Xu,Sn,V_,List.cons_append,J2] at hce;generalize (QE L q).kd=ax at *
      generalize (QE L q).pk=P at *
      generalize (QE L q).ds=d at *
      generalize (QE L q).il=IL at *
      have HCE:Hid (w7.rangeAt ge (oe+q*17) (Jr ax P ca cc vY vZ pa pc d ia IL.length ic)):=fun m' v' qM=>(hce m' (by have h:=(List.getElem?_eq_some_iff.1 qM).1;simpa using h)).trans qM
      have dF:(q:Int)<(E.length:Int):=by rw [aT.o];omega
      have HQI:=Zh dF
      have QM:Hid (∀ w',Below w8 w8 w'→w'.cell? ⟨k,2,none⟩=some (.slice (some ⟨ge,oe,none⟩) E.length ec)∧w'.cell? ⟨ks,0,none⟩=some (.int .i64 (q:Int))∧w'.rangeAt ge (oe+q*17) (Jr ax P ca cc vY vZ pa pc d ia IL.length ic)):=fun w' h=>by
       have hb:=kU.o.trans (h.mono kU.o.size);obtain ⟨k1,k2,k3,k4,k5,k6,k7,k8,k9⟩:=Zz.o _ hb;exact ⟨k4,k2,fun m' v' qM=>Yp (HCE.o m' v' qM) hb⟩
      clear hce;go_wp2_with fail
      go_cut [9] (fun s9 wx=>s9 = .pointer (some ⟨w8,0,none⟩)∧wx.heap[w8.heap.size]?=some (.cells (Jr ax P ca cc vY vZ pa pc d ia IL.length ic) 84 (0,0))∧Below w8 w8 wx)
      case first=>as_aux_lemma=>
       refine SX ?_;refine Z_.Zy (d:=9) (S:=(fun w'=>w'.cell? ⟨k,2,none⟩=some (.slice (some ⟨ge,oe,none⟩) E.length ec)∧w'.cell? ⟨ks,0,none⟩=some (.int .i64 (q:Int))∧w'.rangeAt ge (oe+q*17) (Jr ax P ca cc vY vZ pa pc d ia IL.length ic))) Zk ?_ (fun Ye=>?_)
       ·(try dsimp only)
        first|exact QM.o _ (ZF (YJ _ _).drew (Zw _) _)|exact QM.o _ (YJ _ _).drew
       refine YP 0 (h:=YP 1 (h:=YP 2 (h:=YP 4 (h:=YK 3 (h:=YK 5 (h:=YP 6 (h:=?_)))))));refine Z_.tk 7 ?_ rfl ?_ <| ?_
       rotate_left
       ·intro wS Uq;(try dsimp only at Uq)
        refine (XH 84 (.tmp 96) ?_ ge (oe+q*17) ?_ (Jr ax P ca cc vY vZ pa pc d ia IL.length ic) _ Uq.2.2 Tryz.underlying84 rfl Zk).trans ?_;all_goals rfl
       try simp only [Z_.pt]
       refine YR 8 (h:=fun K hK=>?_);go_simp;refine Z_.Zb hK _ _ ?_ (fun XU=>?_)
       ·(try dsimp only)
        first|exact QM.o _ (ZF (YJ _ _).drew (Zw _) _)|exact QM.o _ (YJ _ _).drew
       clear hK K;try simp only [Z_.pt]
       refine YR 9 (h:=fun K hK=>?_);rw [ZR Zr];refine wp_store_row 84 (.tmp 9) (.tmp 97) rfl w8.drew.heap.size (Jr ax P ca cc vY vZ pa pc d ia IL.length ic) rfl rfl 84 _ (Z8 w8.drew (.cells (Qj 0 false 0 0 0 0 none 0 0 false 0 none 0 0 none 0 0 0 0 false false 0 none 0 0) 84)) Zk Zk Zk ?_;refine Z_.Yk hK _ _ Zk ?_;clear hK K;try simp only [Z_.pt]
       refine Z_.YC Zk ?_ _;refine RA ?_;go_wp2_with fail
       go_meet;exact ⟨rfl,setRow_heap _ _ _ _ _ _ (Z8 w8.drew (.cells (Qj 0 false 0 0 0 0 none 0 0 false 0 none 0 0 none 0 0 0 0 false false 0 none 0 0) 84)),Z3 (ZF (YJ w8.heap.size w8).drew (Zw _) _) (Zw _) _⟩
      case rest=>
       obtain ⟨UH,rfl⟩:∃ W:World,W=wc:=⟨_,rfl⟩;obtain ⟨rfl,cO,PE⟩:=hcut;have Bo:Hid (Below w7 w7 UH):=kU.o.trans (PE.mono kU.o.size);have tY:Hid (Below w3 w3 UH):=yI.o.trans (Bo.o.mono yI.o.size);have iA:=Zh cO;generalize w8.heap.size=ke at *
       clear QM kU HB83;cases sw with
       | true=>as_aux_lemma=>
        obtain ⟨wF,Ee,lB⟩:=aZ.o rfl
        have CWX:Hid (∀ w',Below UH UH w'→Calls Tryz.prog 31 (Jn va L.length vc (Qc xp xs xb xf) (q:Int)) w' fun e w2=>e = .returned (.int .i64 d.ZH)∧Below w' w' w2):=fun w' h=>by
         have hb:=tY.o.trans (h.mono tY.o.size);have:=CW.o (.slice va L.length vc) ⟨xp,xs,xb,xf⟩ (q:Int) w' (ld.o _ hb) (iJ.o.below hb);rw [lB] at this;exact this
        have Xa:Hid (∀ w',Below UH UH w'→w'.heap[kx]?=some (.cells (Qc xp xs xb xf) 59 (0,0))∧w'.cell? ⟨ks,5,none⟩=some (.bool true)∧w'.cell? ⟨ke,13,none⟩=some (.bool true)∧w'.cell? ⟨ke,14,none⟩=some (.bool true)∧w'.cell? ⟨ke,12,none⟩=some (.int .i64 d.ZH)∧w'.cell? ⟨ks,0,none⟩=some (.int .i64 (q:Int))):=fun w' h=>by
         have hb:=Bo.o.trans (h.mono Bo.o.size);obtain ⟨k1,k2,k3,k4,k5,k6,k7,k8,k9⟩:=Zz.o _ hb;have a:=(h.block _ (ZW iA.o)).trans iA.o;exact ⟨k1,k9,by rw [cell_of a 13];show some (Value.bool d.key)=_;rw [wF],by rw [cell_of a 14];show some (Value.bool d.start)=_;rw [Ee],Zc a 12 rfl,k2⟩
        clear cO PE lB;go_upto_region 15 with fail
        refine SX ?_;refine Z_.Zy (d:=24) (S:=(fun w'=>w'.heap[kx]?=some (.cells (Qc xp xs xb xf) 59 (0,0))∧w'.cell? ⟨ks,5,none⟩=some (.bool true)∧w'.cell? ⟨ke,13,none⟩=some (.bool true)∧w'.cell? ⟨ke,14,none⟩=some (.bool true)∧w'.cell? ⟨ke,12,none⟩=some (.int .i64 d.ZH)∧w'.cell? ⟨ks,0,none⟩=some (.int .i64 (q:Int)))) Zk ?_ (fun Ye=>?_)
        ·(try dsimp only)
         first|exact Xa.o _ ik.o|exact Xa.o _ (YJ _ _).drew
        refine YP 0 (h:=YQ 1 [2] (h:=YP 2 (h:=YP 3 (h:=YP 4 (h:=YQ 5 [23,13,7,6] (h:=YP 6 (h:=YP 7 (h:=YP 8 (h:=YP 9 (h:=YQ 10 [23,13,12,11] (h:=YP 11 (h:=YP 12 (h:=YP 13 (h:=YP 14 (h:=YP 15 (h:=YP 17 (h:=YP 19 (h:=YQ 16 [23,22] (h:=?_)))))))))))))))))));refine Z_.tkp 18 [23,22,21] ?_ rfl ?_ <| ?_
        rotate_left
        ·exact Yt29
        try simp only [Z_.pt]
        refine YQ 20 [23,22,21] (h:=?_);refine YR 21 (h:=fun K hK=>?_);go_simp;refine (CWX.o _ (YJ _ _).drew).mono ?_;rintro e JR ⟨rfl,zQ⟩;have ik:Hid (Below UH UH JR):=(YJ UH.heap.size UH).drew.trans zQ;clear zQ;go_wp2_with fail
        refine Z_.Zb hK _ _ ?_ (fun XU=>?_)
        ·(try dsimp only)
         first|exact Xa.o _ ik.o|exact Xa.o _ (YJ _ _).drew
        clear hK K;try simp only [Z_.pt]
        refine YP 22 (h:=YP 23 (h:=?_));refine YR 24 (h:=fun K hK=>?_);go_simp;refine Z_.Yk hK _ _ Zk ?_;clear hK K;try simp only [Z_.pt]
        refine Z_.YC Zk ?_ _;refine RA ?_;obtain ⟨-,z5,-,-,-,z0⟩:=Xa.o _ ik.o;clear Xa CWX;go_upto_region 17 with fail
        go_quiet (fail)
        have eQ:Hid (Below UH UH (JR.drewN nq)):=below_drewN ik.o nq;have HBF:Hid (Below w5 w5 (JR.drewN nq)):=IJ.o.trans ((Bo.o.trans (eQ.o.mono Bo.o.size)).mono IJ.o.size);go_wp2_with fail
        go_roundw
        case rel=>exact ⟨i+1,Zo,Zn,by rw [qW.o],HBF.o⟩
        case measure=>simp [intOf];omega
       | false=>as_aux_lemma=>
        obtain ⟨lB,lq,hlq1,hlq2,hdf⟩:=eW.o rfl;subst hlq2
        have CCX:Hid (∀ w',Below UH UH w'→Calls Tryz.prog 35 (Jn va L.length vc (Qc xp xs xb xf) (q:Int)) w' fun e w2=>e = .returned (.int .i64 d.ZH)∧Below w' w' w2):=fun w' h=>by
         have hb:=tY.o.trans (h.mono tY.o.size);have:=CC.o (.slice va L.length vc) ⟨xp,xs,xb,xf⟩ (q:Int) w' (ld.o _ hb) (iJ.o.below hb);rw [lB] at this;exact this
        have hlL:lq<E.length:=by rw [aT.o];omega
        have hlE:E[lq]?=some E[lq]:=Vb hlL
        have hsl2:w7.cell? ⟨ge,oe+lq*17+3,none⟩=some (.int .u16 (QE L lq).pk.seq):=by
         have h3:(E.map (·.e))[lq]?=some E[lq].e:=by rw [List.getElem?_map,hlE];rfl
         rw [HEL.o] at h3;unfold I4 at h3;rw [List.getElem?_map,List.getElem?_range Zo] at h3;rw [hrE lq _ hlE 3 Zo,Option.some.inj h3];rfl
        generalize (QE L lq).pk.seq=sq2 at *
        have HSL2:=Zh hsl2;have hlI:(lq:Int)<(E.length:Int):=by rw [aT.o];omega
        have CA:Hid (∀ w',Calls Tryz.prog 38 (Qy P.seq sq2) w' fun e w2=>e = .returned (.bool true)∧w'=w2):=fun w'=>by
         have:=Dx P.seq sq2 w';rw [Wi hdf] at this;exact this
        have Xa:Hid (∀ w',Below UH UH w'→w'.heap[kx]?=some (.cells (Qc xp xs xb xf) 59 (0,0))∧w'.cell? ⟨ks,5,none⟩=some (.bool false)∧w'.cell? ⟨ke,12,none⟩=some (.int .i64 d.ZH)∧w'.cell? ⟨ks,0,none⟩=some (.int .i64 (q:Int))∧w'.cell? ⟨ke,3,none⟩=some (.int .u16 P.seq)∧w'.cell? ⟨k,2,none⟩=some (.slice (some ⟨ge,oe,none⟩) E.length ec)∧w'.cell? ⟨ge,oe+lq*17+3,none⟩=some (.int .u16 sq2)):=fun w' h=>by
         have hb:=Bo.o.trans (h.mono Bo.o.size);obtain ⟨k1,k2,k3,k4,k5,k6,k7,k8,k9⟩:=Zz.o _ hb;have a:=(h.block _ (ZW iA.o)).trans iA.o;exact ⟨k1,k9,Zc a 12 rfl,k2,Zc a 3 rfl,k4,Yp HSL2.o hb⟩
        obtain ⟨-,z9,-,-,-,-,-⟩:=Xa.o _ (YJ _ _);clear cO PE lB hdf hlE hsl2;go_upto_region 15 with fail
        go_quiet (fail)
        have eQ:=Zh (below_drewN (YJ UH.heap.size UH) nq);clear z9;generalize UH.drewN nq=JR at *
        go_upto_region 17 with fail
        refine SX ?_;refine Z_.Zy (d:=29) (S:=(fun w'=>w'.heap[kx]?=some (.cells (Qc xp xs xb xf) 59 (0,0))∧w'.cell? ⟨ks,5,none⟩=some (.bool false)∧w'.cell? ⟨ke,12,none⟩=some (.int .i64 d.ZH)∧w'.cell? ⟨ks,0,none⟩=some (.int .i64 (q:Int))∧w'.cell? ⟨ke,3,none⟩=some (.int .u16 P.seq)∧w'.cell? ⟨k,2,none⟩=some (.slice (some ⟨ge,oe,none⟩) E.length ec)∧w'.cell? ⟨ge,oe+lq*17+3,none⟩=some (.int .u16 sq2))) Zk ?_ (fun Ye=>?_)
        ·(try dsimp only)
         first|exact Xa.o _ lS.o|exact Xa.o _ eQ.o.drew
        refine YP 0 (h:=YQ 1 [3,2] (h:=YP 2 (h:=YP 3 (h:=YP 4 (h:=YP 5 (h:=YP 7 (h:=YP 9 (h:=YQ 6 [28,13,12] (h:=?_)))))))));refine Z_.tkp 8 [28,13,11] ?_ rfl ?_ <| ?_
        rotate_left
        ·exact Yt29
        try simp only [Z_.pt]
        refine YQ 10 [28,13,11] (h:=?_);refine YR 11 (h:=fun K hK=>?_);go_simp;refine (CCX.o _ eQ.o.drew).mono ?_;rintro e aA ⟨rfl,J_⟩;have lS:Hid (Below UH UH aA):=eQ.o.drew.trans (J_.mono eQ.o.drew.size);clear J_;go_wp2_with fail
        refine Z_.Zb hK _ _ ?_ (fun XU=>?_)
        ·(try dsimp only)
         first|exact Xa.o _ lS.o|exact Xa.o _ eQ.o.drew
        clear hK K;try simp only [Z_.pt]
        refine YP 12 (h:=YP 13 (h:=YP 14 (h:=YP 15 (h:=YP 17 (h:=YP 18 (h:=YP 19 (h:=YP 21 (h:=YQ 16 [28,27,26] (h:=YQ 20 [28,27,26,25,24,23,22] (h:=YP 22 (h:=YP 23 (h:=YP 24 (h:=YQ 25 [28,27,26] (h:=?_))))))))))))));refine YR 26 (h:=fun K hK=>?_);go_simp;refine (CA.o _).mono ?_;rintro e w13 ⟨rfl,rfl⟩;go_wp2_with fail
        refine Z_.Zb hK _ _ ?_ (fun VG=>?_)
        ·(try dsimp only)
         first|exact Xa.o _ lS.o|exact Xa.o _ eQ.o.drew
        clear hK K;try simp only [Z_.pt]
        refine YP 27 (h:=YP 28 (h:=?_));refine YR 29 (h:=fun K hK=>?_);go_simp;refine Z_.Yk hK _ _ Zk ?_;clear hK K;try simp only [Z_.pt]
        refine Z_.YC Zk ?_ _;refine RA ?_;obtain ⟨-,-,-,z0,-,-,-⟩:=Xa.o _ lS.o;clear Xa CCX CA;have HBF:Hid (Below w5 w5 aA):=IJ.o.trans ((Bo.o.trans (lS.o.mono Bo.o.size)).mono IJ.o.size);go_wp2_with fail
        go_roundw
        case rel=>exact ⟨i+1,Zo,Zn,by rw [qW.o],HBF.o⟩
        case measure=>simp [intOf];omega
    ·have hii:i=S.length:=by omega
     clear VX;go_wp2_with fail
     go_roundw
     case rel=>exact ⟨m+1,Zo,Zn,Rl.o.trans (HBI.o.mono Rl.o.size)⟩
     case measure=>simp [intOf];omega
  ·have dt:m=LS.length:=by omega
   clear VX;subst dt;go_wp2;go_ret;exact ⟨rfl,im.o.trans (HBM.o.mono im.o.size)⟩
end Go.Proofs.By
