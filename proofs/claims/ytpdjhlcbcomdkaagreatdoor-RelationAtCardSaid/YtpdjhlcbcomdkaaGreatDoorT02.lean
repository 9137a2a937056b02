/- Part of a proof. -/
import Derived.Test.YtpdjhlcbcomdkaaGreatDoorT01
import Derived.Test.YtpdjhlcbcomdkaaGreatDoorT0Y
set_option linter.unusedVariables false
set_option linter.unusedSimpArgs false
set_option maxRecDepth 100000
set_option maxHeartbeats 16000000
open Go Go.Q
namespace Go.Proofs
theorem Yx1{p:Prop} (h:p:=by
 have TZ:=H1.o.z;have UH:=H1.o.Y8;go_wp2_with (first|(go_at_call 116;refine CW.o.mono ?_;rintro e w' ⟨rfl,rfl⟩)|(with_reducible refine Zl UH underlying173 ?_)|(with_reducible refine Zs TZ ?_))
 refine VD (v:= .tuple (Qq Ya 0 1)) ?_ rfl ?_
 ·exact Yt12
 exact UF.o _ 1 TZ H1.o.Zf VC.o):p:=h
theorem Yx2{p:Prop} (h:p:=by
 clear Ht Hk Us;have TZ:=H1.o.z;go_wp2_with (first|(go_at_call 116;refine CW.o.mono ?_;rintro e w' ⟨rfl,rfl⟩)|(go_at_call 117;refine CI.o.mono ?_;rintro e w4 ⟨⟨a,rfl,hit⟩,TW⟩;obtain⟨xa,xc,ya,yc,za,zc,ha,L6⟩:=Kz hit;subst ha;have wz:=Zh L6;have Dd:=(TW.block w (ZX TZ)).trans TZ;have Va:=Zh (H1.o.Zf.trans (TW.mono H1.o.Zf.size));clear hit L6 TW)|(with_reducible refine Zs Dd ?_))
 refine VD (v:= .tuple (Qq (Qe i.kind i.Yl i.Ep i.time i.Wk i.octets xa i.blocks.length xc ya i.gone.length yc i.XT za i.Xo.length zc) (Z:Int) 0)) ?_ rfl ?_
 ·exact Yt13
 exact⟨⟨_,by rw[VC.o],by rw[VC.o];exact M6 (wz.o.setRow Dd _)⟩,Z0 Va.o (Zw _) _⟩):p:=h
theorem Yx3{p:Prop} (h:p:=by
 have VC:Hid (X=((XP,0),2)):=by show _=_;rw[iN.o,ZU Uk]
 have dz:decide ((b.length:Int)<(Z:Int))=true:=Ww Zo;have TZ:=H1.o.z;have UH:=H1.o.Y8;go_wp2_with (first|(go_at_call 116;refine CW.o.mono ?_;rintro e w' ⟨rfl,rfl⟩)|(with_reducible refine Zl UH underlying173 ?_)|(with_reducible refine Zs TZ ?_))
 refine VD (v:= .tuple (Qq Ya 0 2)) ?_ rfl ?_
 ·exact Yt12
 exact UF.o _ 2 TZ H1.o.Zf VC.o):p:=h
theorem Yx4{p:Prop} (h:p:=by
 rw[hj0];go_upto_region 10 with(go_at_call 93;refine CI.o.mono ?_;rintro e w2 ⟨⟨a,rfl,hit⟩,Zb⟩;obtain⟨xa,xc,ya,yc,za,zc,ha,L6⟩:=Kz hit;subst ha;have wz:=Zh L6;have Yg:=Zh Zb;clear hit L6 Zb)
 clear CI;have G':Hid (Below w w (w2.alloc (.cells (Qe i.kind i.Yl i.Ep i.time i.Wk i.octets xa i.blocks.length xc ya i.gone.length yc i.XT za i.Xo.length zc) 173))):=ZF (Sv.o.trans (Yg.o.mono Uk)) (Zw _) _;by_cases RM:er=0
 rotate_left
 ·have BZ:Hid (X=([],er)):=by show _=_;rw[HX.o,Ot.o,HE.o RM]
  have bl:(er !=0)=true:=by rw[RH];exact RM
  clear HX Ot HE;go_wp2_with fail
  go_ret2
  exact⟨⟨.slice none 0 0,by rw[BZ.o];rfl,by rw[BZ.o];exact YH.nil _⟩,G'.o⟩
 subst RM;have hnr:n≤r.length:=eF.o AE;obtain⟨a2,Us,-,ZW⟩:=SI (P:=prog) VG ra r.length rc n hnr dM;have Vc:=Zh ZW;have Bb:=Z9 w2 (.cells (Qe i.kind i.Yl i.Ep i.time i.Wk i.octets xa i.blocks.length xc ya i.gone.length yc i.XT za i.Xo.length zc) 173);have GU:=Yg.o.size;have EX:Hid (Below w w ((w2.alloc (.cells (Qe i.kind i.Yl i.Ep i.time i.Wk i.octets xa i.blocks.length xc ya i.gone.length yc i.XT za i.Xo.length zc) 173)).alloc (.cells (Qe i.kind i.Yl i.Ep i.time i.Wk i.octets xa i.blocks.length xc ya i.gone.length yc i.XT za i.Xo.length zc) 173))):=ZF G'.o (Zw _) _;have A9:Below w2 w2 ((w2.alloc (.cells (Qe i.kind i.Yl i.Ep i.time i.Wk i.octets xa i.blocks.length xc ya i.gone.length yc i.XT za i.Xo.length zc) 173)).alloc (.cells (Qe i.kind i.Yl i.Ep i.time i.Wk i.octets xa i.blocks.length xc ya i.gone.length yc i.XT za i.Xo.length zc) 173)):=ZF (Z' w2 _) (Zw _) _;have NC:=Zh (Yv (Yv Yk.o Yg.o) A9)
 have rM:Hid (∀x∈L++[⟨i,.slice xa i.blocks.length xc,.slice ya i.gone.length yc,.slice za i.Xo.length zc⟩],Ue ((w2.alloc (.cells (Qe i.kind i.Yl i.Ep i.time i.Wk i.octets xa i.blocks.length xc ya i.gone.length yc i.XT za i.Xo.length zc) 173)).alloc (.cells (Qe i.kind i.Yl i.Ep i.time i.Wk i.octets xa i.blocks.length xc ya i.gone.length yc i.XT za i.Xo.length zc) 173)) x):=fun x hx=>by
  rcases EN.1 hx with h|h
  ·exact((EZ.o x h).below Yg.o).below A9
  ·rw[J7]at h;subst h;exact wz.o.below A9
 have wG:=VA (w2.alloc (.cells (Qe i.kind i.Yl i.Ep i.time i.Wk i.octets xa i.blocks.length xc ya i.gone.length yc i.XT za i.Xo.length zc) 173)) 173 1 (Qe i.kind i.Yl i.Ep i.time i.Wk i.octets xa i.blocks.length xc ya i.gone.length yc i.XT za i.Xo.length zc) Zd;rw[show(w2.alloc _).heap.size=w2.heap.size+1 by show(w2.heap.push _).size=_;rw[Ou]]at wG;replace wG:=Zh wG
 have OY:∀u∈((Qe i.kind i.Yl i.Ep i.time i.Wk i.octets xa i.blocks.length xc ya i.gone.length yc i.XT za i.Xo.length zc):List Value),u.oneCell'=true:=by
  intro u hu;simp only[J9,List.mem_nil_iff,or_false]at hu;rcases hu with rfl|rfl|rfl|rfl|rfl|rfl|rfl|rfl|rfl|rfl <;> rfl
 have HONE:=Zh OY;clear A9 ZW OY;go_wp2_with (first|(with_reducible refine Zl Bb underlying173 ?_)|(at_builtin;refine YO rfl (.tmp 30) (.tmp 32) 82 rfl w GN (.slice oa j oc) j (L.flatMap YU) rfl NC.o _ 1 (Qe i.kind i.Yl i.Ep i.time i.Wk i.octets xa i.blocks.length xc ya i.gone.length yc i.XT za i.Xo.length zc) rfl wG.o rfl HONE.o Zo Zo EX.o.size (fun v' w4 HO4 HG4=>?_)))
 have HBW4:Hid (Below w w w4):=((Fr.Z6 Pz EX.o).grown HG4.o EX.o.size (YL NC.o)).below;obtain⟨na,nc,Nr,-⟩:=Row.Z4 HO4.o;subst Nr;go_roundw
 case rel=>
  refine⟨j+1,r.drop n,a2,rc-n,L++[⟨i,.slice xa i.blocks.length xc,.slice ya i.gone.length yc,.slice za i.Xo.length zc⟩],Zo,by rw[UG,HLJ.o];rfl,by rw[Ra];omega,by rw[Ra],rfl,by rw[Wz Zo],HBW4.o,?_,?_,?_,?_,?_⟩
  ·have h:=HO4.o;rw[OD];exact h
  ·intro x hx;exact(rM.o x hx).wJ (XS HG4.o) (Y7 NC.o Zd) (Y7 NC.o Zd) (Y7 NC.o Zd)
  ·intro w'' hb;have h:=Vc.o w'' (Rx r) (by rw[Xg];omega) (HR.o w'' hb);show XM w'' _ (r.drop n).length (Rx (r.drop n));rw[Ra,←QA];simpa using h
  ·intro h
   have hl:¬r.length-n=0:=by
    rcases h with h|h
    ·omega
    ·rw[Ra]at h;omega
   rw[Ot.o,HM.o AE hl,show 8-(j+1)=q by omega,Nv];rfl
  ·intro h
   have hl:r.length-n=0:=by
    rw[Ra]at h;omega
   rw[Ot.o,E0.o AE hl,Nv];rfl
 case measure=>simp[mJ];omega):p:=h
theorem Yx6{p:Prop} (h:p:=by
 refine hK.out _ _ ?_ (fun _=>?_)
 ·exact Yt7
 clear hK K;try simp only[Z_.pt]
 refine wpAnyH_ready (rs:=[12]) X_ Zi ?_;refine AllReadyH.cons (i:=12) rfl (fun K hK=>?_) ?_
 ·(first|(go_split_ands;refine Ze Zr (.const (.slice none 0 0)) (.tmp 23) 47 Zr w1 TM (.slice none 0 0) 0 [] Zr (TV _ _ _ _) (.slice a T.Zz.length cap) T.Zz.length (T.Zz.flatMap Yy) Zr ?_ Am.o (Pb _) Zo Zo ?_ ?_;(exact SR.o _ V8);(exact Below.size V8);intro v1 w2 T9 Ot;have Uj:=XB Ot.o;have Yp:Below w1 w1 w2:=Heap.Below.call V8 (Zw _) Uj;obtain⟨k2,k3,k4,k5⟩:=ZB.o _ Yp)|(go_split_ands;refine Ze Zr (.tmp 24) (.tmp 30) 47 Zr w1 TM v1 (0+T.Zz.length) ([]++T.Zz.flatMap Yy) Zr ?_ _ 1 (Q5 p (str nm)) Zr ?_ Zr (KQ ⟨p,nm⟩) Zo Zo ?_ ?_;(repeat(first|with_reducible exact T9.o|with_reducible refine Xb ?_|with_reducible refine World.ownsRow.alloc ?_ _));(repeat(first|((with_reducible refine Ta _ _ 1 (Q5 p (str nm)) Zd _ ?_);rfl)|with_reducible refine Row.drew ?_|with_reducible refine Row.below ?_ Uj));(exact Below.size V8);intro v2 w3 Po JY;have Wf:Below w1 w1 w3:=Below.grown V8 JY.o (Below.size V8) (YL T9.o);obtain⟨k6,k7,k8,k9⟩:=ZB.o _ Wf;obtain⟨va,vc,hv⟩:=Wu Po.o;subst hv))
  refine hK.out _ _ ?_ (fun _=>?_)
  ·exact Yt7
  clear hK K;try simp only[Z_.pt]
  refine YA 13 (h:=YA 14 (h:=?_));refine wpAnyH_ready (rs:=[15]) X_ Zi ?_;refine AllReadyH.cons (i:=15) rfl (fun K hK=>?_) ?_
  ·go_simp;refine hK.out _ _ ?_ (fun _=>?_)
   ·exact Yt7
   clear hK K;try simp only[Z_.pt]
   refine wpAnyH_done X_ ?_ _;refine QZ ?_;go_wp2
   go_ret2
   obtain⟨Ej,dv⟩:=eT.o _ Wf;have ZW:=Row.Z4 Po.o;rw[Hz,PW]at ZW;have yE:=Ej.zE (l:=T.Zz++[⟨p,nm⟩]) Yo17;exact Vj HF (Row.nil _ _) yE (dv.setAt _ _)
  exact AllReadyH.nil
 exact AllReadyH.nil):p:=h
theorem Yx7{p:Prop} (h:p:=by
 refine hK.out _ _ ?_ (fun _=>?_)
 ·exact Yt7
 clear hK K;try simp only[Z_.pt]
 refine wpAnyH_ready (rs:=[8]) X_ Zi ?_;refine AllReadyH.cons (i:=8) rfl (fun K hK=>?_) ?_
 ·(first|(go_split_ands;refine Ze Zr (.const (.slice none 0 0)) (.tmp 79) 49 Zr V Ug (.slice none 0 0) 0 [] Zr (TV _ _ _ _) (.slice a T.ZY.length cap) T.ZY.length (T.ZY.flatMap Zq) Zr ?_ Am.o (Tt _) Zo Zo ?_ ?_;(exact SR.o _ V8);(exact Below.size V8);intro v1 w2 T9 Ot;have Uj:=XB Ot.o;have Yp:Below V V w2:=Heap.Below.call V8 (Zw _) Uj;have r2:Below w2 w2 w2:=YI _ _;obtain⟨k2,k3⟩:=ZB.o _ Yp)|(go_split_ands;refine Ze Zr (.tmp 80) (.tmp 82) 49 Zr V Ug v1 (0+T.ZY.length) ([]++T.ZY.flatMap Zq) Zr ?_ _ 1 (Qk p n la false) Zr ?_ Zr (Lb ⟨p,n,la,false⟩) Zo Zo ?_ ?_;(exact Zv T9.o V8);(repeat(first|((with_reducible refine Ta _ _ 1 (Qk p n la false) Zd _ ?_);rfl)|with_reducible refine Row.drew ?_|with_reducible refine Row.below ?_ Uj));(exact Below.size V8);intro v2 w3 Po JY;have Wf:Below V V w3:=Below.grown V8 JY.o (Below.size V8) (YL T9.o);obtain⟨k6,k7⟩:=ZB.o _ Wf;obtain⟨va,vc,hv⟩:=Wu Po.o;subst hv))
  refine hK.out _ _ ?_ (fun _=>?_)
  ·exact Yt7
  clear hK K;try simp only[Z_.pt]
  refine YA 9 (h:=YA 10 (h:=?_));refine wpAnyH_ready (rs:=[11]) X_ Zi ?_;refine AllReadyH.cons (i:=11) rfl (fun K hK=>?_) ?_
  ·go_simp;refine hK.out _ _ ?_ (fun _=>?_)
   ·exact Yt7
   clear hK K;try simp only[Z_.pt]
   refine wpAnyH_done X_ ?_ _;refine QZ ?_;go_wp2_with fail
   go_meet;obtain⟨Ej,dv⟩:=eT.o _ Wf;have ZW:=Row.Z4 Po.o;rw[Hz,PW]at ZW;have yE:=Ej.K6 (l:=T.ZY++[⟨p,n,la,false⟩]) Yo14;exact⟨yE,dv.setAt _ _,(Fr.Z6 _ Wf).setAt _ _⟩
  exact AllReadyH.nil
 exact AllReadyH.nil):p:=h
theorem Yx8{p:Prop} (h:p:=by
 clear hK K;try simp only[Z_.pt]
 refine YP 31 (h:=YP 32 (h:=?_));refine YR 33 (h:=fun K hK=>?_);go_simp;have HO:=Zh (HO.o.bj 5 (.slice xa (ws.length+1) xc) (.slice xa (ws.length+1) xc) (.slice ca cs.length cc) (.slice qa qs.length qc) rfl);refine Z_.Yf hK _ _ X_ ?_;clear hK K;try simp only[Z_.pt]
 refine YP 34 (h:=YP 35 (h:=?_));refine YR 36 (h:=fun K hK=>?_);go_simp;have HO:=Zh (HO.o.bj 6 (.slice ya (cs.length+1) yc) (.slice xa (ws.length+1) xc) (.slice ya (cs.length+1) yc) (.slice qa qs.length qc) rfl);refine Z_.Yf hK _ _ X_ ?_;clear hK K;try simp only[Z_.pt]
 refine YP 37 (h:=YP 38 (h:=?_));refine YR 39 (h:=fun K hK=>?_);go_simp;have HO:=Zh (HO.o.bj 7 (.slice za (qs.length+1) zc) (.slice xa (ws.length+1) xc) (.slice ya (cs.length+1) yc) (.slice za (qs.length+1) zc) rfl);refine Z_.Yf hK _ _ X_ ?_;clear hK K;try simp only[Z_.pt]
 refine Z_.Yx X_ ?_ _;refine QZ ?_;go_wp2_with fail
 go_meet
 exact⟨_,_,_,HO.o⟩):p:=h
theorem Yx10{p:Prop} (h:p:=by
 go_upto_region 11 with(go_at_call 125;refine HC.o.mono ?_;rintro e w2 ⟨⟨a0,rfl,⟨cv,ev,pv,cX,q1,q2,q3⟩⟩,Zb⟩;obtain⟨ca,cc,Hi,-⟩:=id q1;obtain⟨ea,ec,Kt,-⟩:=id q2;obtain⟨pa,pc,My,-⟩:=id q3;subst Hi;subst Kt;subst My;dsimp only[Gb]at cX;subst cX;have HR:Hid (Vy w2 P (.slice ca P.VF.length cc) (.slice ea P.ext.length ec) (.slice pa P.ZE.length pc)):=⟨q1,q2,q3⟩;have Yg:=Zh Zb;clear q1 q2 q3 Zb)
 clear HC;have G_:Hid (Below w w (w2.alloc (.cells (Qc P.Xw P.type P.seq P.time P.Yl ca P.VF.length cc P.Xv P.X9 ea P.ext.length ec pa P.ZE.length pc P.pad) 79))):=ZF Yg.o (Zw _) _;by_cases RM:er=0
 ·subst RM;have HD:Hid (∀w1,Below w2 w2 w1→Calls prog 126 #[.slice pa P.ZE.length pc] w1 fun e w'=>e = .returned (.tuple (Qo (Qd (Yz P.ZE).1.ZI (Yz P.ZE).1.key (Yz P.ZE).1.start (Yz P.ZE).1.frame) (Yz P.ZE).2))∧Below w1 w1 w'):=fun w1 h=>wQ _ P.ZE w1 (HR.o.p.below h).r
  rw[Z3 Zi]at HX;generalize Yz P.ZE=D at *
  obtain⟨d,de⟩:=D;dsimp only at HD HX;have GU:w2.heap.size<(w2.alloc (.cells (Qc P.Xw P.type P.seq P.time P.Yl ca P.VF.length cc P.Xv P.X9 ea P.ext.length ec pa P.ZE.length pc P.pad) 79)).heap.size:=by show _<(w2.heap.push _).size;rw[Ou];exact Nat.lt_succ_self _
  have ZW:=Z9 w2 (.cells (Qc P.Xw P.type P.seq P.time P.Yl ca P.VF.length cc P.Xv P.X9 ea P.ext.length ec pa P.ZE.length pc P.pad) 79);have bL:=Zh (HR.o.below (Z' w2 (.cells (Qc P.Xw P.type P.seq P.time P.Yl ca P.VF.length cc P.Xv P.X9 ea P.ext.length ec pa P.ZE.length pc P.pad) 79)));go_upto_region 14 with(go_at_call 126;refine(HD.o _ (Z' _ _)).mono ?_;rintro e w3 ⟨rfl,WT⟩;have WU:=Zh WT;have y0:=(WT.block _ GU).trans ZW;have wM:w2.heap.size<w3.heap.size:=OB GU WT.size;clear WT)
  have xu:=Zh (bL.o.below WU.o);have RD:Hid (Below w w w3):=Tr G_ WU.o;have BS:Hid (Below w w (w3.alloc (.cells (Qd d.ZI d.key d.start d.frame) 81))):=ZF RD.o (Zw _) _;have Mn:=Zh (xu.o.below (Z' w3 (.cells (Qd d.ZI d.key d.start d.frame) 81)));have y1:=((Z' w3 (.cells (Qd d.ZI d.key d.start d.frame) 81)).block _ wM).trans y0;clear ZW bL WU HD;by_cases dn:de=0
  ·subst dn;rw[Z3 Zi]at HX;go_wp2_with (with_reducible refine Zl y1 underlying79 ?_)
   go_ret2
   exact⟨⟨_,by rw[HX.o];rfl,by rw[HX.o];exact⟨_,_,_,rfl,Mn.o⟩⟩,BS.o⟩
  ·have bl:(de !=0)=true:=by rw[RH];exact dn
   have bl2:(de==0)=false:=by rw[WM];exact dn
   rw[ZU dn]at HX;go_wp2_with fail
   go_ret2
   exact⟨⟨.nilIface,by rw[HX.o];rfl,by rw[HX.o];rfl⟩,BS.o⟩
 ·have bl:(er !=0)=true:=by rw[RH];exact RM
  have bl2:(er==0)=false:=by rw[WM];exact RM
  rw[ZU RM]at HX;go_wp2_with fail
  go_ret2
  exact⟨⟨.nilIface,by rw[HX.o];rfl,by rw[HX.o];rfl⟩,G_.o⟩):p:=h
theorem Yx11{p:Prop} (h:p:=by
 have hT':=Zh hT;have HC:Hid (may s.data.toList=((rn s.data.toList).all (fun p=>G3 p.1)&&decide (1≤(rn s.data.toList).length)&&decide ((rn s.data.toList).length≤8))):=rfl;have HU:Hid (runes s.data.toList=if(rn s.data.toList).all good then((rn s.data.toList).length:Int)else -1):=rfl;have CR:=Zh (vh s w hs hT);clear hT;by_cases hr:1≤runes s.data.toList∧runes s.data.toList≤8
 ·obtain⟨aA,Mz⟩:=hr
  have HL:Hid (((rn s.data.toList).length:Int)=runes s.data.toList):=by
   have:=HU.o;split at this
   ·exact this.symm
   ·omega
  have hlen:1≤(rn s.data.toList).length∧(rn s.data.toList).length≤8:=by have:=HL.o;omega
  have GG:Hid (may s.data.toList=(rn s.data.toList).all (fun p=>G3 p.1)):=by
   show _=_;rw[HC.o];simp[hlen]
  generalize runes s.data.toList=q at *
  go_enter func120,ntmps120;go_wp2_with (go_at_call 148;refine CR.o.mono ?_;rintro e w1 ⟨rfl,YZ⟩)
  go_loopw [4] (fun a w'=>∃k:Nat,Below w w w'∧a = .int .i64 (cutAt s.data.toList k)∧k≤(rn s.data.toList).length∧Hid (((rn s.data.toList).take k).all (fun p=>G3 p.1)=true)) (fun a _=>s.size-(intOf a).toNat)
  case atStart=>exact⟨0,YZ,rfl,TH _,rfl⟩
  case round=>
   obtain⟨k,hb,rfl,hle,Uz⟩:=hrel;by_cases hp:cutAt s.data.toList k<s.size
   ·have hwd:=Lib.decode_width_pos s _ hp;obtain⟨h1,h2,h3,h4⟩:=JI s k hp
    have hw2:cutAt s.data.toList k+(Utf8.decode s (cutAt s.data.toList k)).2≤s.size:=by
     have:=Fh s.data.toList (k+1);rw[←Lib.size_eq]at this;omega
    have hr0:(Utf8.decode s (cutAt s.data.toList k)).1≤1114111:=by rw[←decodeL_drop];exact decodeL_rune _
    have H2:=Zh h2;have H4:=Zh h4;clear h2 h4;have CD:=Zh (jh s (cutAt s.data.toList k) wr hp (Utf8Tabs_below hT'.o hb));generalize hd:Utf8.decode s (cutAt s.data.toList k)=d at *
    have HD:=Zh hd;clear hd;obtain⟨r,wd⟩:=d;dsimp only at *
    have CO:Hid (∀w,Calls prog 150 #[.int .i32 r] w (fun e w'=>e = .returned (.bool (G3 r))∧w=w')):=by
     intro w;have:=jY (r:Int) w Zo Zo;rwa[Wl]at this
    by_cases ho:G3 r=true
    ·rw[ho]at CO;have HO:=Zh ho;clear ho;go_wp2_with (first|(go_at_call 149;refine CD.o.mono ?_;rintro e w' ⟨rfl,Zb⟩)|(go_at_call 150;refine(CO.o _).mono ?_;rintro e w' ⟨rfl,rfl⟩))
     go_roundw
     case rel=>exact⟨k+1,hb.trans (Zb.mono hb.size),by rw[H2.o];go_num,Zo,Kb Uz.o H4.o HO.o⟩
     case measure=>simp[intOf];omega
    ·have ho:G3 r=false:=by simpa using ho
     rw[ho]at CO
     have HF:Hid (may s.data.toList=false):=by
      show _=_;rw[GG.o];exact AJ H4.o ho
     clear ho;go_wp2_with (first|(go_at_call 149;refine CD.o.mono ?_;rintro e w' ⟨rfl,Zb⟩)|(go_at_call 150;refine(CO.o _).mono ?_;rintro e w' ⟨rfl,rfl⟩))
     go_ret;exact⟨Xt HF.o.symm,hb.trans (Zb.mono hb.size)⟩
   ·have hend:=Bt s k hp
    have HF:Hid (may s.data.toList=true):=by
     show _=_;have e:(rn s.data.toList).length=k:=by omega
     have h:=Uz.o;rw[←e,n9]at h;rw[GG.o,h]
    go_wp2;go_ret;exact⟨Xt HF.o.symm,hb⟩
 ·have HF:Hid (may s.data.toList=false):=by
   show _=_;rw[J8];intro hm;have hv:=Dl hm;have hu:=HU.o;rw[ZU hv]at hu;unfold may at hm;simp at hm;omega
  generalize runes s.data.toList=q at *
  by_cases hq:q<1
  ·go_enter func120,ntmps120;go_wp2_with (go_at_call 148;refine CR.o.mono ?_;rintro e w1 ⟨rfl,YZ⟩)
   go_ret;exact⟨Xt HF.o.symm,YZ⟩
  ·have qo:8<q:=by omega
   clear hr;go_enter func120,ntmps120;go_wp2_with (go_at_call 148;refine CR.o.mono ?_;rintro e w1 ⟨rfl,YZ⟩)
   go_ret
   exact⟨Xt HF.o.symm,YZ⟩):p:=h
theorem Yx12{p:Prop} (h:p:=by
 have CM:=Zh (zk s w hs hT);have HK:Hid (key s.data.toList=if may s.data.toList then s.data.toList.map low else[]):=rfl;have HL:Hid (s.data.toList.length=s.size):=(Lib.size_eq s).symm;clear hT;by_cases hm:may s.data.toList=true
 ·have HF:Hid (key s.data.toList=s.data.toList.map low):=by show _=_;rw[HK.o,ZU hm]
  rw[hm]at CM;clear hm;have hconv:∀w,(convert 9 30 (.string s)).run prog w=_:=fun w=>Go.Lib.run_convert_string_bytes w 9 30 5 s underlying9 underlying30 underlying5
  go_enter func121,ntmps121;go_wp2_with (first|(go_at_call 120;refine CM.o.mono ?_;rintro e w1 ⟨rfl,hb⟩))
  have YZ:=hb.trans ((xQ w1 5 s).mono hb.size);have aA:=K5 w1 5 s;have hB:w.heap.size≤w1.heap.size:=hb.size;generalize grownCap w1 s.size 0 5=cap;generalize bytesWorld w1 5 s=wB at *
  generalize w1.heap.size=B at *
  clear hconv hb;go_loopw [13] (fun i w'=>∃k:Nat,Below w w w'∧i = .int .i64 k∧k≤s.size∧Mm w' B 0 ((s.data.toList.take k).map low++s.data.toList.drop k)) (fun i _=>s.size-(intOf i).toNat)
  case atStart=>exact⟨0,YZ,rfl,TH _,by simpa using aA⟩
  case round=>
   obtain⟨k,hb,rfl,hle,ZW⟩:=hrel;have HR:=Zh ZW;clear ZW aA
   have hML:((s.data.toList.take k).map low++s.data.toList.drop k).length=s.size:=by
    simp only[UG,Tx,SY,Ra,HL.o];omega
   have tI:=Zh hML;clear hML;by_cases hk:k<s.size
   ·have hc:=(HR.o k (by rw[tI.o];exact hk)).1;have I8:=(HR.o k (by rw[tI.o];exact hk)).2;rw[PW]at hc I8;rw[Dk _ _ (by rw[HL.o];exact hk)]at hc;have HS:=Zh (uW s.data.toList k (by rw[HL.o];exact hk));have hx:=UInt8.toNat_lt (s.data.toList.getD k 0)
    have HW:∀x:UInt8,Mm (wr.setCell ⟨B,k,none⟩ (.int .u8 x.toNat)) B 0 (((s.data.toList.take k).map low++s.data.toList.drop k).set k x):=by
     intro x;have:=iA HR.o (i:=k) x
     rwa[PW]at this
    have HW:=Zh HW;generalize qw:s.data.toList.getD k 0=x at *
    have HX:=Zh qw;clear qw;have HU:=Zh (aW x);have HI:=Zh (aV x);by_cases c1:65≤x.toNat
    ·by_cases c2:x.toNat≤90
     ·have e:Hid (Value.int .u8 (x.toNat+32:Nat) = .int .u8 (low x).toNat):=by show _=_;rw[HU.o c1 c2]
      go_wp2;go_roundw
      case rel=>
       refine⟨k+1,hb.setCell Uf _,Zn,Zo,?_⟩;have:=HW.o (low x);rw[HS.o,HU.o c1 c2]at this;simpa using this
      case measure=>simp[intOf];omega
     ·exact Yt14
    ·exact Yt14
   ·have hk:k=s.size:=by omega
    have ZW:=HR.o;subst hk;rw[←HL.o,n9,List.drop_length,rW]at ZW;have Hi:=EB (P:=prog) (c:=cap) 30 9 5 ZW underlying30 underlying5 underlying9;rw[Tx,HL.o]at Hi;clear ZW HR;go_wp2;go_ret;exact⟨G6 (by rw[HF.o]),hb⟩
 ·have hm:may s.data.toList=false:=by simpa using hm
  have HF:Hid (key s.data.toList=[]):=by show _=_;rw[HK.o,hm];rfl
  rw[hm]at CM;clear hm;go_enter func121,ntmps121;go_wp2_with (first|(go_at_call 120;refine CM.o.mono ?_;rintro e w1 ⟨rfl,hb⟩))
  go_ret
  exact⟨G6 (by rw[HF.o];rfl),hb⟩):p:=h
theorem Yx13{p:Prop} (h:p:=by
 have HR:=Zh (HR.o.far (XS oJ.o) HFA.o);have xk:=Zh (Row.fr xk.o (XS oJ.o) (Zw _) (Y7 HC.o.XX Zd));have RZ:Hid (Below w w w6):=((Fr.Z6 Pz RZ.o).grown oJ.o RZ.o.size (YL HC.o.XX)).below;have HC:=Zh (HC.o.Co oJ.o iE.o);refine Z_.Y9 hK _ _ ?_ (fun _=>?_)
 ·exact ZB.o _ _ HC.o.Y8 HR.o.tk
 clear hK K;try simp only[Z_.pt]
 refine YR 17 (h:=fun K hK=>?_);refine Ze Zr (.tmp 41) (.tmp 44) 114 Zr w Ki mv M.length (M.flatMap Xm) Zr HC.o.KG _ 1 ([(⟨T.XQ,T.Wx,.slice ca T.XQ.VF.length cc,.slice ea T.XQ.ext.length ec,.slice pa T.XQ.ZE.length pc⟩:TK)].flatMap Xm) Zr xk.o rfl Dm (by rw[tI.o];omega) (by rw[tI.o];omega) ?_ ?_
 ·exact RZ.o.size
 intro v17 w7 HO17 Aj;have E1:Hid (w7.ownsRow w 97 15 v17 (M++[(⟨T.XQ,T.Wx,.slice ca T.XQ.VF.length cc,.slice ea T.XQ.ext.length ec,.slice pa T.XQ.ZE.length pc⟩:TK)]).length ((M++[(⟨T.XQ,T.Wx,.slice ca T.XQ.VF.length cc,.slice ea T.XQ.ext.length ec,.slice pa T.XQ.ZE.length pc⟩:TK)]).flatMap Xm)):=(by have h:=HO17.o;rw[UG,OD];exact h);obtain⟨ma,mc,lO,-⟩:=Row.Z4 E1.o;rw[show(M++[(⟨T.XQ,T.Wx,.slice ca T.XQ.VF.length cc,.slice ea T.XQ.ext.length ec,.slice pa T.XQ.ZE.length pc⟩:TK)]).length=j+1 by rw[UG,tI.o];rfl]at lO;subst lO;have HEA:Hid (∀x∈M++[(⟨T.XQ,T.Wx,.slice ca T.XQ.VF.length cc,.slice ea T.XQ.ext.length ec,.slice pa T.XQ.ZE.length pc⟩:TK)],Vy w7 x.p x.cv x.ev x.pv):=fun x hx=>Yo12
 have HFM:Hid (wq w6 (fun i=>mv.ownBlock=some i)):=fun i hi=>(by obtain⟨cu,hc⟩:=Wi HC.o.KG i hi;exact⟨cu,_,_,hc,WB (WB (WO rfl))⟩)
 have HR:=Zh (HR.o.far (XS Aj.o) HFM.o);have RZ:Hid (Below w w w7):=((Fr.Z6 Pz RZ.o).grown Aj.o RZ.o.size (YL HC.o.KG)).below;have HC:=Zh (HC.o.cQ Aj.o E1.o HEA.o);obtain⟨b0,b1,b2,b3,b4⟩:=HC.o.cells;have b41:=b4 1;have b42:=b4 2;refine Z_.Y9 hK _ _ ?_ (fun _=>?_)
 ·exact ZB.o _ _ HC.o.Y8 HR.o.tk
 clear hK K;try simp only[Z_.pt]
 refine YP 18 (h:=YP 19 (h:=?_));refine YR 20 (h:=fun K hK=>?_);go_simp;have HFK:Hid (wq w7 (· = w.heap.size)):=fun i hi=>fk
 have HR:=Zh (HR.o.far (w':=w7.setCell ⟨w,1,none⟩ (.slice na (j+1) nc)) ((Fr.refl _ _ _).setAt _ _) HFK.o);have RZ:Hid (Below w w (w7.setCell ⟨w,1,none⟩ (.slice na (j+1) nc))):=((Fr.Z6 Pz RZ.o).setCell (p:=⟨w,1,none⟩) (WO (Zw _)) _).below;have HC:=Zh (HC.o.Gk 1 (.slice na (j+1) nc));obtain⟨d0,d1,d2,d3,d4⟩:=HC.o.cells;have d42:=d4 2;refine Z_.Yf hK _ _ X_ ?_;clear hK K;try simp only[Z_.pt]
 refine YP 21 (h:=YP 22 (h:=?_));refine YR 23 (h:=fun K hK=>?_);go_simp;have HFK:Hid (wq (w7.setCell ⟨w,1,none⟩ (.slice na (j+1) nc)) (· = w.heap.size)):=fun i hi=>fk
 have HR:=Zh (HR.o.far (w':=(w7.setCell ⟨w,1,none⟩ (.slice na (j+1) nc)).setCell ⟨w,2,none⟩ (.slice ma (j+1) mc)) ((Fr.refl _ _ _).setAt _ _) HFK.o);have RZ:Hid (Below w w ((w7.setCell ⟨w,1,none⟩ (.slice na (j+1) nc)).setCell ⟨w,2,none⟩ (.slice ma (j+1) mc))):=((Fr.Z6 Pz RZ.o).setCell (p:=⟨w,2,none⟩) (WO (Zw _)) _).below;have HC:=Zh (HC.o.Gk 2 (.slice ma (j+1) mc));refine Z_.Yf hK _ _ X_ ?_;clear hK K;try simp only[Z_.pt]
 refine Z_.Yx X_ ?_ _;refine QZ ?_;go_wp2_with fail
 go_meet
 exact⟨na,nc,ma,mc,HC.o,HR.o,RZ.o⟩):p:=h
theorem Yx14{p:Prop} (h:p:=by
 have HR:Hid ((rn s.data.toList).length≤s.size):=by have:=KZ s.data.toList;rw[Lib.size_eq];exact this
 go_enter func161,ntmps161;go_wp2;go_loopw [3] (fun c w'=>∃k:Nat,w'=w.iter s (cutAt s.data.toList k)∧c = .int .i64 k∧k≤(rn s.data.toList).length∧Hid (((rn s.data.toList).take k).all (fun p=>G3 p.1)=true)) (fun _ w'=>s.size-w'.iterPos w)
 case atStart=>exact⟨0,rfl,rfl,TH _,rfl⟩
 case round=>
  obtain⟨k,rfl,rfl,hle,Uz⟩:=hrel;by_cases hp:cutAt s.data.toList k<s.size
  ·have hnx:∀ty,(Instr.next (.pointer (some ⟨w,0,none⟩)) true ty).run prog (w.iter s (cutAt s.data.toList k))=_:=fun ty=>run_next_any w s _ ty hp
   have hwd:=Lib.decode_width_pos s _ hp;obtain⟨h1,h2,h3,h4⟩:=JI s k hp;have H2:=Zh h2;have H4:=Zh h4;clear h2 h4;have hks:k<s.size:=by omega
   generalize hd:Utf8.decode s (cutAt s.data.toList k)=d at *
   have HD:=Zh hd;clear hd;obtain⟨r,wd⟩:=d;dsimp only at *
   by_cases Ny:G3 r=true
   ·have HB:=Zh Ny;have hb:=Ny;unfold G3 at hb;simp only[UW,Bool.or_eq_true,Sz,Bool.not_eq_true',WM]at hb;obtain⟨⟨b1,b2⟩,b3⟩:=hb;clear Ny;have t1:((r:Int)==65533)=false:=by rw[WM];omega
    clear b3;by_cases b4:r<127
    ·clear b2;go_wp2;go_roundw
     case rel=>exact⟨k+1,by rw[H2.o],Zn,Zo,Kb Uz.o H4.o HB.o⟩
     case measure=>simp;omega
    ·have b5:159<r:=by omega
     clear b2;go_wp2;go_roundw
     case rel=>exact⟨k+1,by rw[H2.o],Zn,Zo,Kb Uz.o H4.o HB.o⟩
     case measure=>simp;omega
   ·have HF:Hid (may s.data.toList=false):=by
     show _=_;unfold may;rw[AJ H4.o (by simpa using Ny)];rfl
    have HC:Hid (r<33∨(127≤r∧r≤159)∨r=65533):=by
     show _∨_;unfold G3 at Ny;simp at Ny;omega
    clear Ny;by_cases b1:r<33
    ·go_wp2;go_ret;exact⟨Xt HF.o.symm,SA _ _ _⟩
    by_cases b2:127≤r∧r≤159
    ·obtain⟨b2,b3⟩:=b2;go_wp2;go_ret;exact⟨Xt HF.o.symm,SA _ _ _⟩
    ·have b3:r=65533:=by have:=HC.o;omega
     subst b3;go_wp2;go_ret;exact⟨Xt HF.o.symm,SA _ _ _⟩
  ·have hnx:∀ty,(Instr.next (.pointer (some ⟨w,0,none⟩)) true ty).run prog (w.iter s (cutAt s.data.toList k))=_:=fun ty=>run_next_end w s _ ty hp
   have hend:=Bt s k hp
   have HM:Hid (may s.data.toList=(decide (1≤k)&&decide (k≤8))):=by
    show _=_;have e:(rn s.data.toList).length=k:=by omega
    have h:=Uz.o;rw[←e,n9]at h;unfold may;rw[h,e,Bool.true_and]
   by_cases c1:1≤k
   ·by_cases c2:k≤8
    ·go_wp2;go_ret;exact⟨Xt (by rw[HM.o];first|(simp[c1,c2];done)|(simp[c1,c2];omega)),SA _ _ _⟩
    ·go_wp2;go_ret;exact⟨Xt (by rw[HM.o];first|(simp[c1,c2];done)|(simp[c1,c2];omega)),SA _ _ _⟩
   ·go_wp2;go_ret
    exact⟨Xt (by rw[HM.o];first|(simp[c1];done)|(simp[c1];omega)),SA _ _ _⟩):p:=h
theorem pF{p:Prop} (h:p:=by
 have h:=Z9 (w.alloc (.cells Ya 173)) (.cells Ya 173);rw[show(w.alloc (.cells Ya 173)).heap.size=w.heap.size+1 by show(w.heap.push _).size=_;rw[Ou]]at h
 exact h):p:=h
theorem Yx17{p:Prop} (h:p:=by
 have HR:Hid ((rn s.data.toList).length≤s.size):=by have:=KZ s.data.toList;rw[Lib.size_eq];exact this
 have hT':=Zh hT;clear hT;go_enter func148,ntmps148;go_wp2;go_loopw [3,4] (fun n a w'=>∃k:Nat,Below w w w'∧n = .int .i64 k∧a = .int .i64 (cutAt s.data.toList k)∧k≤(rn s.data.toList).length∧Hid (((rn s.data.toList).take k).all good=true)) (fun _ a _=>s.size-(intOf a).toNat)
 case atStart=>exact⟨0,YI _ _,rfl,rfl,TH _,rfl⟩
 case round=>
  obtain⟨k,hb,rfl,rfl,hle,Uz⟩:=hrel;by_cases hp:cutAt s.data.toList k<s.size
  ·have hwd:=Lib.decode_width_pos s _ hp;obtain⟨h1,h2,h3,h4⟩:=JI s k hp
   have hw2:cutAt s.data.toList k+(Utf8.decode s (cutAt s.data.toList k)).2≤s.size:=by
    have:=Fh s.data.toList (k+1);rw[←Lib.size_eq]at this;omega
   have H2:=Zh h2;have H4:=Zh h4;clear h2 h4;have hks:k<s.size:=by omega
   have CD:=Zh (jh s (cutAt s.data.toList k) wr hp (Utf8Tabs_below hT'.o hb));by_cases hg:good (Utf8.decode s (cutAt s.data.toList k))=true
   ·generalize hd:Utf8.decode s (cutAt s.data.toList k)=d at *
    have HD:=Zh hd;clear hd;have hG:¬(d.1=65533∧d.2=1):=by unfold good at hg;intro h;simp[h]at hg
    have HG:=Zh hg;clear hg;obtain⟨r,wd⟩:=d;dsimp only at *
    by_cases g1:r=65533
    ·have g2:((wd:Int)==1)=false:=by rw[WM];omega
     subst g1;clear hG;exact Yt18
    ·have g2:((r:Int)==65533)=false:=by rw[WM];omega
     clear hG g1;exact Yt18
   ·have hg:good (Utf8.decode s (cutAt s.data.toList k))=false:=by simpa using hg
    have HF:Hid (runes s.data.toList=-1):=by
     show _=_;unfold runes;rw[AJ H4.o hg];rfl
    have hd:=uj hg;rw[hd]at CD;clear hg hd;go_wp2_with (go_at_call 149;refine CD.o.mono ?_;rintro e w' ⟨rfl,Zb⟩)
    go_ret;exact⟨YS HF.o.symm,hb.trans (Zb.mono hb.size)⟩
  ·have hend:=Bt s k hp
   have HF:Hid (runes s.data.toList=(k:Int)):=by
    show _=_;have e:(rn s.data.toList).length=k:=by omega
    have h:=Uz.o;rw[←e,n9]at h;unfold runes;rw[ZU h,e]
   go_wp2;go_ret
   exact⟨YS HF.o.symm,hb⟩):p:=h
theorem Yx18{p:Prop} (h:p:=by
 go_wp2_with (first|(go_at_call 78;refine(PO 5 0 _).mono ?_;rintro e w5 ⟨⟨cs,rfl,Pp⟩,NI⟩;have P5:=Zh (Tr Va NI);have Ip:=(P5.o.block (w.heap.size+1) (ZX HZ.o)).trans HZ.o;have hi:=PT Pp;have hold:=PS Pp;have OY:=Pp.one;have J1:=Zh Pp;clear Pp NI)|(with_reducible refine ZT 100 (.tmp 6) (.tmp 48) rfl ?_;refine VY rfl 100 (.tmp 6) (.tmp 48) rfl rfl (w.heap.size+1) cs.toArray rfl rfl 100 Xf Ip hi hold OY ?_))
 refine VD (v:= .agg cs.toArray) ?_ rfl ?_
 ·exact Yt15
 exact⟨⟨cs,rfl,by rw[HX.o];exact J1.o.setRow Ip _⟩,Z0 (Tr RD P5.o) (J_ _) _⟩):p:=h
theorem Yx19{p:Prop} (h:p:=by
 go_enter func151,ntmps151;go_wp2_with (first|(go_at_call 169;refine CK.o.mono ?_;rintro e w2 ⟨rfl,Zb⟩;have TY:=(Zb.block w (ZX P8)).trans P8;have Yg:=Zh (Tr VN Zb);clear Zb)|(go_at_call 170;refine(Ez _ b _ (HV.o _ Yg.o)).mono ?_;rintro e w4 ⟨⟨a,rfl,hit⟩,TW⟩;generalize XV b=RG at *;obtain⟨⟨i,ri⟩,er⟩:=RG;dsimp only at hit;obtain⟨xa,xc,ya,yc,za,zc,ha,L6⟩:=Kz hit;subst ha;have wz:=Zh L6;have Dd:=(TW.block w (ZX TY)).trans TY;have Va:=Zh (Tr Yg TW);clear hit L6 TW)|(with_reducible refine Zs Dd ?_))
 refine VD (v:= .tuple (Qq (Qe i.kind i.Yl i.Ep i.time i.Wk i.octets xa i.blocks.length xc ya i.gone.length yc i.XT za i.Xo.length zc) (ri:Nat) er)) ?_ rfl ?_
 ·exact Yt13
 exact⟨⟨_,by rw[HX.o],by rw[HX.o];exact M6 (wz.o.setRow Dd _)⟩,Z0 Va.o (Zw _) _⟩):p:=h
theorem MM{p:Prop} (h:p:=by
 (try dsimp only)
 (first|exact Hv.o _ (Fr.Z6 _ V8)|exact Hv.o _ (Fr.setAt (Fr.Z6 _ V8) _ _)|go_keep)):p:=h
theorem Yx22{p:Prop} (h:p:=by
 have hT':=Zh hT;have CM:=Zh (rT s w hs);have HK:Hid (key s.data.toList=if may s.data.toList then s.data.toList.map low else[]):=rfl;clear hT;by_cases hm:may s.data.toList=true
 ·have HF:Hid (key s.data.toList=mapD NB s.data.toList):=by
   show _=_;rw[HK.o,ZU hm,mL _ (by rw[rE];exact Dl hm)]
  have GU:s.size<35184372088832:=by have:=sL hm;rw[←Lib.size_eq]at this;omega
  rw[hm]at CM;clear hm
  have CF:∀w1,Below w w w1→Calls prog 177 #[.func (.func 178) #[] #[],.string s] w1 fun e w'=>e = .returned (.string ⟨(Lib.mapD NB s.data.toList).toArray⟩)∧Below w1 w1 w':=by
   intro w1 hb;refine Tryz.strings_Map_runes 178 #[] ?_ NB s w1 GU ?_ ?_ (Utf8Tabs_below hT'.o hb)
   ·exact fun args w=>by kernel_rfl
   ·intro W x hx _;exact(jX (x:Int) W Zo Zo).mono fun e w' h=>⟨h.1,0,h.2.symm⟩
   ·intro x hx;unfold NB;split <;> omega
  have CF:=Zh CF;go_enter func162,ntmps162;go_wp2_with (first|(go_at_call 161;refine CM.o.mono ?_;rintro e w1 ⟨rfl,hb⟩)|(go_at_call 177;refine(CF.o _ SU).mono ?_;rintro e w2 ⟨rfl,Zb⟩))
  go_ret;refine⟨?_,hb.trans (Zb.mono hb.size)⟩;rw[HF.o];rfl
 ·have hm:may s.data.toList=false:=by simpa using hm
  have HF:Hid (key s.data.toList=[]):=by show _=_;rw[HK.o,hm];rfl
  rw[hm]at CM;clear hm;go_enter func162,ntmps162;go_wp2_with (first|(go_at_call 161;refine CM.o.mono ?_;rintro e w1 ⟨rfl,hb⟩))
  go_ret
  exact⟨G6 (by rw[HF.o];rfl),hb⟩):p:=h
theorem Yx23{p:Prop} (h:p:=by
 have VC:Hid (X=((XP,0),4)):=by show _=_;rw[iM.o,ZU Bc]
 have dm:((m:Int)!=1)=true:=by rw[RH];omega
 have CW:=Zh (wm.o 0 0 Zo);have TZ:=H1.o.z;have UH:=H1.o.Y8;go_wp2_with (first|(go_at_call 116;refine CW.o.mono ?_;rintro e w' ⟨rfl,rfl⟩)|(with_reducible refine Zl UH underlying173 ?_)|(with_reducible refine Zs TZ ?_))
 refine VD (v:= .tuple (Qq Ya 0 4)) ?_ rfl ?_
 ·exact Yt12
 exact UF.o _ 4 TZ H1.o.Zf VC.o):p:=h
theorem Yx25{p:Prop} (h:p:=by
 rw[D5.o]at qo;have az:=Row.Z4 qo;obtain⟨pv',Ac,iZ,Ks,qj,⟨ms',dP,GU,wM⟩,hu'⟩:=hr.Vv
 have mf:iZ = .slice (some ⟨g,0,none⟩) T.ZY.length cp:=by
  have h1:=cell_of Ks 2;rw[(ZB.o w' h).1]at h1;simpa using h1.symm
 subst mf;refine⟨⟨pv',Ac,.slice (some ⟨g,0,none⟩) T.ZY.length cp,by rw[hf.block b FB (fun e=>Ku e.symm)];exact Ks,?_⟩,?_⟩
 ·rw[HT1.o];exact⟨qj.fr hf (Zw _) (GX _ Zd),⟨ms',dP,GU.fr hf (Zw _) (GX _ Zd),fun x hx=>(wM x hx).fr hf (Zw _) (GX _ Zd)⟩,by rw[List.length_set];exact az⟩
 ·have h1:Fr w (· = b) w W1:=(Fr.Z6 _ SZ.o).trans (Ha.o.mono Zo (fun _ _ h=>h))
  exact(h1.trans ((Fr.Z6 (· = b) h).mono Zo (fun _ _ h=>h))).setCell (WO T_) _):p:=h
theorem Yx26{p:Prop} (h:p:=by
 clear VC;go_enter func108,ntmps108;go_wp2_with (go_at_call 131;refine CO.o.mono ?_;rintro e w2 ⟨⟨n,rfl⟩,Zb⟩;have RD:=Zh (Tr VN Zb);have TY:=(Zb.block w (ZX hz)).trans hz;have c0:=cell_of TY 0;simp only[SN,Sy]at c0;clear Zb TY)
 go_ret2
 exact⟨⟨.slice none 0 0,by rw[HX.o];rfl,by rw[HX.o];exact Row.nil _ _⟩,by rw[HX.o];exact HR.o.below RD.o,Fr.Z6 _ RD.o⟩):p:=h
theorem Yx27{p:Prop} (h:p:=by
 go_simp;refine hK.out _ _ ?_ (fun _=>?_)
 ·exact MM
 clear hK K;try simp only[Z_.pt]
 refine wpAnyH_ready (rs:=[5]) X_ Zi ?_;refine AllReadyH.cons (i:=5) rfl (fun K hK=>?_) ?_
 ·(first|(go_split_ands;refine Ze Zr (.const (.slice none 0 0)) (.tmp 23) 47 Zr w1 TM (.slice none 0 0) 0 [] Zr (TV _ _ _ _) (.slice a T.Zz.length cap) T.Zz.length (T.Zz.flatMap Yy) Zr ?_ Am.o (Pb _) Zo Zo ?_ ?_;(exact SR.o _ V8);(exact Below.size V8);intro v1 w2 T9 Ot;have Uj:=XB Ot.o;have Yp:Below w1 w1 w2:=Heap.Below.call V8 (Zw _) Uj;obtain⟨k2,k3,k4,k5⟩:=ZB.o _ Yp)|(go_split_ands;refine Ze Zr (.tmp 24) (.tmp 30) 47 Zr w1 TM v1 (0+T.Zz.length) ([]++T.Zz.flatMap Yy) Zr ?_ _ 1 (Q5 p (str nm)) Zr ?_ Zr (KQ ⟨p,nm⟩) Zo Zo ?_ ?_;(repeat(first|with_reducible exact T9.o|with_reducible refine Xb ?_|with_reducible refine World.ownsRow.alloc ?_ _));(repeat(first|((with_reducible refine Ta _ _ 1 (Q5 p (str nm)) Zd _ ?_);rfl)|with_reducible refine Row.drew ?_|with_reducible refine Row.below ?_ Uj));(exact Below.size V8);intro v2 w3 Po JY;have Wf:Below w1 w1 w3:=Below.grown V8 JY.o (Below.size V8) (YL T9.o);obtain⟨k6,k7,k8,k9⟩:=ZB.o _ Wf;obtain⟨va,vc,hv⟩:=Wu Po.o;subst hv))
  exact Yx6
 exact AllReadyH.nil):p:=h
theorem Yx28{p:Prop} (h:p:=by
 go_simp;refine hK.out _ _ ?_ (fun _=>?_)
 ·exact MM
 clear hK K;try simp only[Z_.pt]
 refine wpAnyH_ready (rs:=[5]) X_ Zi ?_;refine AllReadyH.cons (i:=5) rfl (fun K hK=>?_) ?_
 ·(first|(go_split_ands;refine Ze Zr (.const (.slice none 0 0)) (.tmp 79) 49 Zr V Ug (.slice none 0 0) 0 [] Zr (TV _ _ _ _) (.slice a T.ZY.length cap) T.ZY.length (T.ZY.flatMap Zq) Zr ?_ Am.o (Tt _) Zo Zo ?_ ?_;(exact SR.o _ V8);(exact Below.size V8);intro v1 w2 T9 Ot;have Uj:=XB Ot.o;have Yp:Below V V w2:=Heap.Below.call V8 (Zw _) Uj;have r2:Below w2 w2 w2:=YI _ _;obtain⟨k2,k3⟩:=ZB.o _ Yp)|(go_split_ands;refine Ze Zr (.tmp 80) (.tmp 82) 49 Zr V Ug v1 (0+T.ZY.length) ([]++T.ZY.flatMap Zq) Zr ?_ _ 1 (Qk p n la false) Zr ?_ Zr (Lb ⟨p,n,la,false⟩) Zo Zo ?_ ?_;(exact Zv T9.o V8);(repeat(first|((with_reducible refine Ta _ _ 1 (Qk p n la false) Zd _ ?_);rfl)|with_reducible refine Row.drew ?_|with_reducible refine Row.below ?_ Uj));(exact Below.size V8);intro v2 w3 Po JY;have Wf:Below V V w3:=Below.grown V8 JY.o (Below.size V8) (YL T9.o);obtain⟨k6,k7⟩:=ZB.o _ Wf;obtain⟨va,vc,hv⟩:=Wu Po.o;subst hv))
  exact Yx7
 exact AllReadyH.nil):p:=h
theorem kq{p:Prop} (h:p:=by
 go_enter func131,ntmps131;go_wp2_with (first|(go_at_call 160;refine CW.o.mono ?_;rintro e w2 ⟨rfl,rfl⟩)|(go_at_call 83;refine CS.o.mono ?_;rintro e w3 ⟨rfl,WT⟩;have WU:=Zh WT;clear WT))
 go_ret2
 exact⟨⟨0,by rw[xG.o];rfl⟩,ZF WU.o (Zw _) _⟩):p:=h
theorem Yx30{p:Prop} (h:p:=by
 have x1:w1.cell? ⟨w,1,none⟩=some (.int .i64 p):=V5 1;have x2:w1.cell? ⟨w,2,none⟩=some (.int .i64 n):=V5 2;have x3:w1.cell? ⟨w,3,none⟩=some (.int .i64 la):=V5 3;have x4:w1.cell? ⟨w,4,none⟩=some (.string (str nm)):=V5 4;have x5:w1.cell? ⟨w,5,none⟩=some (.slice sa ss.length sc):=V5 5;have x6:w1.cell? ⟨w,6,none⟩=some (.slice ba bl bc):=V5 6;clear YZ V5;go_wp2_with (go_at_call 102;(with_reducible refine(C.o w1 (HR.o.below VN.o)).mono ?_);rintro e w2 ⟨⟨tv,rfl,SX⟩,UY,Wm⟩)
 go_ret2
 exact Vj HF SX UY ((Fr.Z6 _ VN.o).trans (Wm.mono Zo (fun _ _ h=>h)))):p:=h
theorem Yx31{p:Prop} (h:p:=by
 obtain⟨r,rfl⟩:=Rw h0;rw[Wl];have hc:=ik r;by_cases b1:r<33
 ·have HF:Hid (G3 r=false):=by show _=_;rw[J8,ne_eq,hc];omega
  clear hc;exact fu
 by_cases b2:r<127
 ·have HF:Hid (G3 r=true):=by show _=_;rw[hc];omega
  clear hc;have t2:((r:Int)!=65533)=true:=by rw[RH];omega
  exact fu
 by_cases b3:r≤159
 ·have HF:Hid (G3 r=false):=by show _=_;rw[J8,ne_eq,hc];omega
  clear hc;exact fu
 by_cases b4:r=65533
 ·have HF:Hid (G3 65533=false):=by show _=_;decide
  clear hc;subst b4;exact fu
 ·have HF:Hid (G3 r=true):=by show _=_;rw[hc];omega
  clear hc;have t2:((r:Int)!=65533)=true:=by rw[RH];omega
  clear b4;go_enter func150,ntmps150;go_wp2;go_ret
  exact⟨Xt (by rw[HF.o];simp;omega),rfl⟩):p:=h
theorem Yx33{p:Prop} (h:p:=by
 go_ret;have h1:Row (w.alloc (.cells (YN [10,11]).toArray 66)) 66 (.slice (some ⟨w,0,none⟩) 2 2) 2 (YN [10,11]):=VA w _ 2 (YN [10,11]) Zd;have h2:=VA (w.alloc (.cells (YN [10,11]).toArray 66)) 5 17 (Rx pk7) Zd;have h3:=VA ((w.alloc (.cells (YN [10,11]).toArray 66)).alloc (.cells (Rx pk7).toArray 5)) 32 5 ((Fb w).flatMap fun y=>XJ y.x) Zd;have e1:(w.alloc (.cells (YN [10,11]).toArray 66)).heap.size=w.heap.size+1:=by show(w.heap.push _).size=_;rw[Ou]
 have e2:((w.alloc (.cells (YN [10,11]).toArray 66)).alloc (.cells (Rx pk7).toArray 5)).heap.size=w.heap.size+2:=by show((w.heap.push _).push _).size=_;rw[Ou,Ou]
 rw[e1]at h2;rw[e2]at h3;refine⟨rfl,⟨h3,?_⟩,ZF (ZF (Z' w _) (Zw _) _) (Zw _) _⟩;intro x hx;simp only[Fb,J9,List.mem_nil_iff,or_false]at hx;rcases hx with rfl|rfl|rfl|rfl|rfl
 ·exact⟨Row.nil _ _,Row.nil _ _,by decide⟩
 ·exact⟨Row.nil _ _,Row.nil _ _,by decide⟩
 ·exact⟨(h1.below (Z' _ _)).below (Z' _ _),Row.nil _ _,by show(bop 2).name.length<_;decide⟩
 ·exact⟨Row.nil _ _,Row.nil _ _,by decide⟩
 ·exact⟨Row.nil _ _,h2.below (Z' _ _),by show(bop 4).name.length<_;decide⟩):p:=h
theorem Yx34{p:Prop} (h:p:=by
 have hb:(er !=0)=true:=by rw[RH];exact RM
 have Zb:(er==0)=false:=by rw[WM];exact RM
 rw[ZU RM]at HX;go_wp2_with (first|(go_at_call 78;refine(PO 3 er _).mono ?_;rintro e w5 ⟨⟨cs,rfl,Pp⟩,NI⟩;have P5:=Zh (Tr Yg NI);have Ip:=(P5.o.block (w.heap.size+1) (ZX HZ.o)).trans HZ.o;have hi:=PT Pp;have hold:=PS Pp;have OY:=Pp.one;have J1:=Zh Pp;clear Pp NI)|(with_reducible refine ZT 100 (.tmp 4) (.tmp 26) rfl ?_;refine VY rfl 100 (.tmp 4) (.tmp 26) rfl rfl (w.heap.size+1) cs.toArray rfl rfl 100 Xf Ip hi hold OY ?_))
 refine VD (v:= .agg cs.toArray) ?_ rfl ?_
 ·exact Yt15
 exact UF.o _ cs _ (Z0 (Tr RD P5.o) (J_ _) _) (J1.o.setRow Ip _) HX.o):p:=h
theorem fC{p:Prop} (h:p:=by
 go_enter func96,ntmps96;go_wp2_with (go_at_call 48;(with_reducible refine(CA.o _ (Z' _ _)).mono ?_);rintro e w1 ⟨rfl,YZ⟩;obtain⟨LG,I8⟩:=SP YZ;have P8:w.heap.size<w1.heap.size:=OB Zi YZ.size)
 go_ret
 exact⟨YS HF.o.symm,(Z' _ _).trans (YZ.mono Zi)⟩):p:=h
theorem fD{p:Prop} (h:p:=by
 go_enter func179,ntmps179;go_wp2_with (first|(go_at_call 191;refine HCK.o.mono ?_;rintro e w' ⟨rfl,rfl⟩)|(go_at_call 155;refine nR.o.mono ?_;rintro e w' ⟨rfl,rfl⟩))
 go_quiet ((go_at_call 192;exact Calls.quiet_of_same ((CS.o _).mono fun e w' h=>⟨h.1,h.2.symm⟩)))
 go_wp2
 go_ret2
 exact⟨rfl,OG Xz _⟩):p:=h
theorem Yx38{p:Prop} (h:p:=by
 rw[ZU (by simp[hj])]at HX;rw[Bool.not_eq_true]at hj;rw[hj];go_wp2_with (first|(go_at_call 78;refine(PO 4 0 _).mono ?_;rintro e w5 ⟨⟨cs,rfl,Pp⟩,NI⟩;have P5:=Zh (Tr WU NI);have Ip:=(P5.o.block (w.heap.size+1) (ZX HZ.o)).trans HZ.o;have hi:=PT Pp;have hold:=PS Pp;have OY:=Pp.one;have J1:=Zh Pp;clear Pp NI)|(with_reducible refine ZT 100 (.tmp 4) (.tmp 35) rfl ?_;refine VY rfl 100 (.tmp 4) (.tmp 35) rfl rfl (w.heap.size+1) cs.toArray rfl rfl 100 Xf Ip hi hold OY ?_))
 refine VD (v:= .agg cs.toArray) ?_ rfl ?_
 ·exact Yt15
 exact UF.o _ cs _ (Z0 (Tr RD P5.o) (J_ _) _) (J1.o.setRow Ip _) HX.o):p:=h
theorem Yx40{p:Prop} (h:p:=by
 clear HS gJ;go_wp2_with (first|(go_at_call 132;refine CG.o.mono ?_;rintro e w2 ⟨⟨tv,rfl,SX⟩,QG,R_⟩;obtain⟨ta,tc,mj,-⟩:=id SX;subst mj;have EL:=Zh SX;have Lq:=Zh QG;have T4:=Zh R_;have GU:=R_.size;clear QG R_ SX)|(at_builtin;refine YO rfl (.tmp 60) (.tmp 61) 98 rfl w Xy _ G1.length (G1.flatMap Z7) rfl ?b1 _ Y1.length (Y1.flatMap Z7) rfl ?b2 ?b3 ?b4 ?b5 ?b6 ?b7 (fun v' w3 HO HG=>?_)))
 case b1=>exact Wv Yk.o T4.o (fun k hk=>by omega)
 case b2=>exact EL.o
 case b3=>exact Vx _
 case b4=>exact X4 _
 case b5=>omega
 case b6=>omega
 case b7=>omega
 go_roundw
 case rel=>
  refine⟨j+1,Zo,Zn,by rw[HT.o,PV.o],?_,?_,?_⟩
  ·exact(T8.o.trans (T4.o.mono Uk (fun _ _ h=>h))).grown HG.o Zo (YL Yk.o)
  ·rw[HT.o,PV.o];exact ZR.grown Lq.o (Wv Yk.o T4.o (fun k hk=>by omega)) HG.o hb Zd
  ·rw[HT.o,PV.o];dsimp only;rw[UG,OD];exact HO.o
 case measure=>simp[intOf];omega):p:=h
theorem ku{p:Prop} (h:p:=by
 (try dsimp only)
 first|exact⟨eO.o.pk.QT 0,eO.o.pk.QT 1,eO.o.pk.Zf⟩|exact⟨Po.o.pk.QT 0,Po.o.pk.QT 1,Po.o.pk.Zf⟩|exact⟨T9.o.pk.QT 0,T9.o.pk.QT 1,T9.o.pk.Zf⟩|exact⟨k0,k1,IJ.o.pk.Zf⟩|exact tN.o _ (YI _ _).drew):p:=h
theorem fE{p:Prop} (h:p:=by
 go_wp2_with fail
 go_quiet (fail)
 have Yg:=Zh (below_drewN HB.o nq);have oY:Hid ((wr.drewN nq).heap[w.heap.size]?=some (.cells (Qb p s b f) 59 (0,0))):=HZ.o;go_wp2_with fail
 go_roundw
 case rel=>exact⟨j+1,Zo,Zn,Yg.o,oY.o,nU.o⟩
 case measure=>simp[intOf];omega):p:=h
theorem AG{p:Prop} (h:p:=by
 go_wp2_with (go_at_call 92;refine CT.o.mono ?_;rintro e w' ⟨rfl,rfl⟩)
 go_ret
 exact⟨rfl,rfl⟩):p:=h
theorem Yx44{p:Prop} (h:p:=by
 go_loop [8,23] (fun n i=>∃k:Nat,k≤s.length∧i = .int .i64 k∧n = .int .u64 (be (s.take k):Nat)) (fun _ i=>s.length-(intOf i).toNat)
 case atStart=>exact⟨0,TH _,rfl,rfl⟩
 case round=>
  obtain⟨k,hk,rfl,rfl⟩:=hrel;by_cases hkq:k<s.length
  ·obtain⟨g,off,cap,e1,_,_,hc⟩:=AO (l:=s) Vc.o Zo;cases e1;have d:=hc k Zo
   have HB:Hid (be (s.take (k+1))=be (s.take k)*256+s[k].toNat):=by
    show _=_;rw[List.take_succ_eq_append_getElem Zo,fQ]
   have OT:be (s.take k)<72057594037927936:=be_lt7 j_;have hor:=ir (be (s.take k)) s[k] OT;have gF:=s[k].toNat_lt;clear hc;generalize s[k]=x at *
   generalize be (s.take k)=m at *
   go_wp2
   go_round
   case rel=>exact⟨k+1,Zo,Zn,by rw[HB.o];go_num⟩
   case measure=>simp[intOf];omega
  ·obtain rfl:k=s.length:=by omega
   go_wp2
   go_ret2
   exact⟨rfl,rfl⟩):p:=h
theorem Yx45{p:Prop} (h:p:=by
 have hc:=HC.o k VM
 have HBAD:Hid (¬(2≤ss.getD k 0∧ss.getD k 0<3221225472)→Bu=5):=by
  intro h;rw[jJ.o,ZU];rw[List.any_eq_true];refine⟨ss.getD k 0,?_,by generalize ss.getD k 0=z at h ⊢;simp;omega⟩;rw[Q_,Ve VM];exact OC VM
 generalize hy:ss.getD k 0=y at *
 have HY:=Zh hy;clear hy;by_cases g1:y<2
 ·have HF:=Zh (HBAD.o Zo);go_wp2;go_ret;exact⟨YS HF.o.symm,Z' _ _⟩
 by_cases g2:3221225472≤y
 ·have HF:=Zh (HBAD.o Zo);go_wp2;go_ret;exact⟨YS HF.o.symm,Z' _ _⟩
 ·go_wp2
  go_round
  case rel=>exact⟨k+1,Zo,Zn,fun j hj=>by by_cases Ik:j<k;exact Ov.o j Ik;rw[show j=k by omega,HY.o];omega⟩
  case measure=>simp[intOf];omega):p:=h
theorem pG{p:Prop} (h:p:=by
 (try dsimp only)
 first|exact ZB.o _ (Nn.o)|exact ZB.o _ iM.o|exact ZB.o _ jU.o|exact ZB.o _ HX6.o|exact ZB.o _ HX7.o|exact ZB.o _ HX8.o):p:=h
theorem Yx47{p:Prop} (h:p:=by
 have HC:Hid (NB r=if 65≤r∧r≤90 then r-65+97 else r):=rfl;by_cases b1:65≤r
 ·by_cases b2:r≤90
  ·have HF:Hid (NB r=r-65+97):=by show _=_;rw[HC.o,ZU ⟨b1,b2⟩]
   go_enter func178,ntmps178;go_wp2;go_ret;exact⟨YS HF.o.symm,rfl⟩
  ·have HF:Hid (NB r=r):=by show _=_;rw[HC.o,Z3 Zo]
   go_enter func178,ntmps178;go_wp2;go_ret;exact⟨YS HF.o.symm,rfl⟩
 ·have HF:Hid (NB r=r):=by show _=_;rw[HC.o,Z3 Zo]
  go_enter func178,ntmps178;go_wp2;go_ret
  exact⟨YS HF.o.symm,rfl⟩):p:=h
theorem Yx48{p:Prop} (h:p:=by
 have x1:w1.cell? ⟨w,1,none⟩=some (.int .i64 p):=V5 1;have x2:w1.cell? ⟨w,2,none⟩=some (.int .i64 n):=V5 2;have x3:w1.cell? ⟨w,3,none⟩=some (.int .i64 la):=V5 3;have x4:w1.cell? ⟨w,4,none⟩=some (.string (str nm)):=V5 4;have x5:w1.cell? ⟨w,5,none⟩=some (.slice sa ss.length sc):=V5 5;have x6:w1.cell? ⟨w,6,none⟩=some (.slice ba bl bc):=V5 6;clear YZ V5;go_wp2_with (go_at_call 101;(with_reducible refine(C.o w1 (HR.o.below VN.o)).mono ?_);rintro e w2 ⟨⟨tv,rfl,SX⟩,UY,Wm⟩)
 go_ret2
 exact Vj HF SX UY ((Fr.Z6 _ VN.o).trans (Wm.mono Zo (fun _ _ h=>h)))):p:=h
theorem Yx49{p:Prop} (h:p:=by
 have h:=Z9 (w.alloc (.cells (Qa kd peer src ly nm sa sl sc ba bl bc) 32)) (.cells Xf 100);have e:(w.alloc (.cells (Qa kd peer src ly nm sa sl sc ba bl bc) 32)).heap.size=w.heap.size+1:=by show(w.heap.push _).size=_;rw[Ou]
 rw[e]at h
 exact h):p:=h
theorem Yx50{p:Prop} (h:p:=by
 have k2:=cell_of HG.o.Y8 6;simp only[SN,Sy,R4]at k2;have f2:=ZP HG.o.Y8 6;refine Z_.Y9 hK _ _ ?_ (fun _=>?_)
 ·first|exact k2|exact k1|exact k0
 clear hK K;try simp only[Z_.pt]
 refine YP 39 (h:=?_);refine YR 40 (h:=fun K hK=>?_);go_simp;refine Z_.Yf hK _ _ X_ ?_;clear hK K;try simp only[Z_.pt]
 refine Z_.Yx X_ ?_ _;refine QZ ?_;go_wp2_with fail
 go_roundw
 case rel=>
  refine⟨i+1,pos+24,na,nq,Zo,by have:=Ns.o;omega,Zn,Zn,?_,?_⟩
  ·exact HG.o.set 6 (.slice na (i+1) nq)
  ·rw[Lr.o];exact JG HO.o HG.o.Y8 Zd _ _
 case measure=>simp[intOf];omega):p:=h
theorem kv{p:Prop} (h:p:=by
 have Hc:=Zh (Lp.o.below (below_drewN (YI _ _) nq));go_wp2_with fail
 go_meet;rw[GG.o]
 exact Hc.o):p:=h
theorem kx{p:Prop} (h:p:=by
 exact results_cell_row Zr _ _ (w.heap.size+1) 100 cs.toArray (0,0) _ Zr (setRow_heap _ _ _ _ _ _ Ip) underlying100 rfl hi):p:=h
theorem Yx55{p:Prop} (h:p:=by
 exact UL (p:=2) (u:=3) (v:=4) Zr _ _ w 173 Ya (0,0) _ Zr (setRow_heap _ _ _ _ _ _ TZ) underlying173 rfl X_):p:=h
theorem Yx56{p:Prop} (h:p:=by
 exact UL (p:=2) (u:=3) (v:=4) Zr _ _ w 173 Ya (0,0) _ Zr (setRow_heap _ _ _ _ _ _ TY) underlying173 rfl X_):p:=h
theorem Yx57{p:Prop} (h:p:=by
 clear hK K;try simp only[Z_.pt]
 refine wpAnyH_done X_ ?_ _;refine QZ ?_;go_wp2_with fail
 go_roundw
 case rel=>exact⟨j+1,.slice na (G1++Y1).length nc,Zo,Zn,by rw[J1.o,Lr.o];have h8:=HDL8.o;simp only[UG]at h8 ⊢;exact h8⟩
 case measure=>simp[intOf];omega):p:=h
theorem Yx58{p:Prop} (h:p:=by
 clear hK K;try simp only[Z_.pt]
 refine wpAnyH_done X_ ?_ _;refine QZ ?_;go_wp2_with fail
 go_roundw
 case rel=>exact⟨j+1,_,Zo,Zn,HP6.o,by rw[n_,Nv,List.map_cons,List.map_nil,rD,BZ.o,←HXS.o];exact Hq.o⟩
 case measure=>simp[intOf];omega):p:=h
theorem Yx59{p:Prop} (h:p:=by
 have hw:Region.wanted o (yielded ops a.tmps)=true:=by simp[Region.wanted,LH]
 rw[ZU hw];obtain⟨z,UB,iY⟩:=E.info;obtain⟨i,hi,hz,Sc,lF⟩:=info_parts UB;refine Go.wp_buildSlice t e 1 #[(0,x)] ho #[v] i z E.ht hi hz (by rw[Sc];omega) (by rw[Sc];omega) ?_ h;have hf:=Go.Great.fill_whole (s:=i.size) Zo [v] ((Array.range (1*i.size)).map (z.cells[· % z.cells.size]!)) (fun u hu=>by rw[J7]at hu;subst hu;rw[hv];show 1=_;omega) Zi;have e1:([v].flatMap fun v=>v.cells.toList).toArray=#[v]:=by simp[hv]
 rw[e1]at hf
 simpa[hx]using hf):p:=h
theorem ky{p:Prop} (h:p:=by
 have h2:=Oe Zo hZ4 Hk (HV.o w' h)
 rwa[show(b.drop 4).take (Z-4)=(b.drop 4).take (4*Lg) by rw[show Z-4=4*Lg by rw[HZ.o];omega]]at h2):p:=h
theorem fF{p:Prop} (h:p:=by
 rcases decodeN_shape n b0 b1 b2 b3 with⟨c,e⟩|⟨c1,c2,c3,cv,e⟩|⟨c1,c2,c3,c4,cv,cs,e⟩|⟨c1,c2,c3,c4,c5,cv,cw,e⟩|e
 ·omega
 all_goals(rw[e];dsimp only;rw[hc _ Zo])):p:=h
theorem kB{p:Prop} (h:p:=by
 clear HW;go_enter func167,ntmps167;go_wp2;go_ret
 exact⟨Xt HF.o.symm,rfl⟩):p:=h
theorem kC{p:Prop} (h:p:=by
 clear HF;go_enter func116,ntmps116;go_wp2;go_ret
 exact⟨by rw[HX.o];rfl,rfl⟩):p:=h
theorem Yx64{p:Prop} (h:p:=by
 clear VC;go_enter func108,ntmps108;go_wp2_with (go_at_call 130;refine CO.o.mono ?_;rintro e w2 ⟨⟨n,l,rfl⟩,Zb⟩;have RD:=Zh (Tr VN Zb);have TY:=(Zb.block w (ZX hz)).trans hz;have c0:=cell_of TY 0;simp only[SN,Sy]at c0;clear Zb TY)
 go_ret2
 exact⟨⟨.slice none 0 0,by rw[HX.o];rfl,by rw[HX.o];exact Row.nil _ _⟩,by rw[HX.o];exact HR.o.below RD.o,Fr.Z6 _ RD.o⟩):p:=h
theorem Yx65{p:Prop} (h:p:=by
 go_enter func164,ntmps164;go_wp2;go_quiet (fail)
 go_wp2;go_ret
 exact⟨YS HF.o.symm,by repeat(first|exact YI _ _|refine below_drewN ?_ _|refine Below.drew ?_|refine Below.alloc ?_ Zi _)⟩):p:=h
theorem Yx68{p:Prop} (h:p:=by
 go_enter func126,ntmps126;go_wp2
 exact VD (v:= .tuple (Qo (Qd 0 false false 0) 1)) (by simp[results,results126,go_sem]) rfl ⟨rfl,Uj⟩):p:=h
theorem Yx71{p:Prop} (h:p:=by
 have C:=Zh (J5 v L w hT h hL);clear hT h hL;go_enter func24,ntmps24;go_wp2_with (go_at_call 53;refine C.o.mono ?_;rintro e w2 ⟨k,g,b,ov,av,mv,lv,M,R,ep,rfl,-,TP⟩;have Av:=Zh TP;have k1:w2.cell? ⟨k,1,none⟩=some av:=(Zc TP.book.Y8 1 rfl);clear TP)
 go_ret;refine⟨⟨av,rfl,?_⟩,Av.o.Zf⟩;have h:=Row.Z4 Av.o.book.XX
 rwa[XK]at h):p:=h
theorem fG{p:Prop} (h:p:=by
 refine Z_.Yf hK _ _ X_ ?_;clear hK K;try simp only[Z_.pt]
 refine Z_.Yx X_ ?_ _;refine QZ ?_;go_wp2_with fail
 go_meet;rw[GG.o]
 exact bJ.o.row _):p:=h
theorem fH{p:Prop} (h:p:=by
 go_enter func96,ntmps96;go_wp2;go_ret
 exact⟨YS HF.o.symm,Z' _ _⟩):p:=h
theorem Yx74{p:Prop} (h:p:=by
 obtain⟨a,c,rfl,-⟩:=id hv;clear hv h3;generalize XY b=X at *
 go_enter func105,ntmps105;go_wp2_with fail
 go_ret2
 exact⟨⟨.nilIface,by rw[HX.o];rfl,by rw[HX.o];rfl⟩,YI _ _⟩):p:=h
theorem Yx75{p:Prop} (h:p:=by
 rintro e w1 ⟨rfl,rfl⟩;go_wp2_with fail
 refine VD (v:= .tuple (Q0 (Qk 0 0 0 false) false)) (by simp[results,results83,go_sem]) rfl ⟨rfl,Z' _ _⟩):p:=h
theorem Yx76{p:Prop} (h:p:=by
 have HO:=Zh (HO.o.kX w_.o ET.o);obtain⟨za,zc,hx⟩:∃a c,v30 = .slice a (qs.length+1) c:=by obtain⟨a,c,h⟩:=Row.form (Row.Z4 ET.o);exact⟨a,c,by rw[h,UG];rfl⟩
 subst hx;obtain⟨c5,c6,c7,-,-,-,-⟩:=HO.o.facts;have f5:=ZP HO.o.view 5;have f6:=ZP HO.o.view 6;have f7:=ZP HO.o.view 7;refine Z_.Y9 hK _ _ ?_ (fun hHeld23=>?_)
 ·exact HO.o.facts
 exact Yx8):p:=h
theorem Yx77{p:Prop} (h:p:=by
 have HO:=Zh (HO.o.kX w_.o ET.o);obtain⟨za,zc,hx⟩:∃a c,v30 = .slice a (qs.length+1) c:=by obtain⟨a,c,h⟩:=Row.form (Row.Z4 ET.o);exact⟨a,c,by rw[h,UG];rfl⟩
 subst hx;obtain⟨c5,c6,c7,-,-,-,-⟩:=HO.o.facts;have f5:=ZP HO.o.view 5;have f6:=ZP HO.o.view 6;have f7:=ZP HO.o.view 7;refine Z_.Y9 hK _ _ ?_ (fun sf=>?_)
 ·exact HO.o.facts
 exact Yx8):p:=h
theorem Yx78{p:Prop} (h:p:=by
 have HO:=Zh (HO.o.kX w_.o ET.o);obtain⟨za,zc,hx⟩:∃a c,v30 = .slice a (qs.length+1) c:=by obtain⟨a,c,h⟩:=Row.form (Row.Z4 ET.o);exact⟨a,c,by rw[h,UG];rfl⟩
 subst hx;obtain⟨c5,c6,c7,-,-,-,-⟩:=HO.o.facts;have f5:=ZP HO.o.view 5;have f6:=ZP HO.o.view 6;have f7:=ZP HO.o.view 7;refine Z_.Y9 hK _ _ ?_ (fun ux=>?_)
 ·exact HO.o.facts
 exact Yx8):p:=h
theorem fI{p:Prop} (h:p:=by
 go_wp2;go_roundw
 case rel=>exact⟨k+1,Zo,Zn,WX.alloc WX.size _,HF.o⟩
 case measure=>simp[intOf];omega):p:=h
theorem Yx80{p:Prop} (h:p:=by
 have wK:=XN f k hk l;obtain⟨g,off,cap,h1,h2,h3,h4,h5⟩:=h.open (by rw[wK];exact Nat.mul_pos hl dD);refine⟨g,off,cap,h1,h2,h3,h4,fun i x hx j hj=>?_⟩;have hi:i<l.length:=(List.getElem?_eq_some_iff.1 hx).1
 have OT:i*k+j<l.length*k:=by
  have h6:(i+1)*k≤l.length*k:=Nat.mul_le_mul_right _ hi;rw[Nat.succ_mul]at h6;omega
 rw[Nat.add_assoc,h5 _ (by rw[wK];exact OT)]
 exact Mu f k hk l i j x hx hj):p:=h
theorem fJ{p:Prop} (h:p:=by
 clear HF;go_enter func61,ntmps61;go_wp2;go_ret
 exact⟨KT HX.o.symm,rfl⟩):p:=h
theorem Yx83{p:Prop} (h:p:=by
 have VC:Hid (X=(([],R),if UA R peer md then 0 else 1)):=by show _=_;rw[Hb.o];simp
 have CO:=Zh (oZ b R peer md _ JZ.o qg Bc);clear Hb hI hS iR hR qg Bc zZ;generalize UA R peer md=O at *
 cases O with
 | false=>
  have HX:Hid (X=(([],R),1)):=by show _=_;rw[VC.o];rfl
  exact Yx26
 | true=>
  have HX:Hid (X=(([],R),0)):=by show _=_;rw[VC.o];rfl
  exact Yx26):p:=h
theorem Yx84{p:Prop} (h:p:=by
 rw[hn]at CN;clear hn h hR;go_enter func81,ntmps81;go_wp2_with fail
 refine(CN.o _).mono ?_;rintro e w1 ⟨rfl,rfl⟩;go_wp2_with fail
 refine VD (v:= .tuple (Q0 (Qp 0 0 none 0 0 false) false)) (by simp[results,results81,go_sem]) rfl ⟨rfl,Z' _ _⟩):p:=h
theorem Yx85{p:Prop} (h:p:=by
 obtain⟨la,uQ,rfl,hx⟩:=ZW;clear hx;have eF:Hid (L=[]):=AH h0;go_wp2_with fail
 go_loopw [7,22] (fun v i w'=>v = .slice none 0 0∧i = .int .i64 0∧w'=w1) (fun _ _ _=>0)
 case atStart=>exact⟨rfl,rfl,rfl⟩
 case round=>
  obtain⟨rfl,rfl,rfl⟩:=hrel;go_wp2;go_ret;rw[HM0.o,eF.o]
  exact⟨⟨_,rfl,Row.nil _ _⟩,Au.o,IH.o⟩):p:=h
theorem fK{p:Prop} (h:p:=by
 clear HW;go_enter func176,ntmps176;go_wp2;go_ret
 exact⟨Xt HF.o.symm,rfl⟩):p:=h
theorem Yx89{p:Prop} (h:p:=by
 clear nY;go_enter func109,ntmps109;go_wp2_with (first|(go_at_call 111;refine(C1.o _).mono ?_;rintro e w1 ⟨rfl,rfl⟩)|(go_at_call 80;refine(CT.o _ (Z' _ _)).mono ?_;rintro e w1 ⟨rfl,rfl⟩))
 go_ret
 exact⟨YS HF.o.symm,Z' _ _⟩):p:=h
theorem Yx90{p:Prop} (h:p:=by
 refine VD (v:= .agg (Qf ca cc cp cm)) ?_ rfl ?_
 ·exact results_cell_row Zr _ _ (w.heap.size+1) 202 (Qf ca cc cp cm) (0,0) _ Zr (setRow_heap _ _ _ _ _ _ zA) underlying202 rfl X_
 exact⟨by rw[VC.o],Z0 JV.o.Zf (J_ _) _⟩):p:=h
theorem Yx92{p:Prop} (h:p:=by
 obtain⟨hl,h⟩:=h;refine⟨by rw[List.length_set];exact hl,?_⟩;rcases h with⟨_,h⟩|⟨g',cap',cur,hv,hg,hh,h1,h2,h3,h4⟩
 ·omega
 ·cases hv;refine WB ⟨g,cap,cur.setIfInBounds i u,rfl,hg,by simp[World.setCell,Array.getElem?_modify,hh],h1,h2,by rw[Array.size_setIfInBounds];exact h3,?_⟩
  rw[Array.toList_setIfInBounds,List.take_set,h4]):p:=h
theorem Yx93{p:Prop} (h:p:=by
 rw[List.set_append_right _ _ Uf];rw[List.take_add_one,Ve h];simp only[Tx,SY,Option.toList,Nv,List.map_cons,List.map_nil,cL]
 congr 1
 rw[show k-min k l.length=0 by omega,List.drop_eq_getElem_cons h,List.set_cons_zero,Q_,Ve h]
 rfl):p:=h
theorem Yx94{p:Prop} (h:p:=by
 obtain⟨rfl,rfl⟩:=h0 rfl;have:news=[]:=AH (by rw[hl,Nat.zero_mul]);subst this;refine wpList_append_own_none LH s x t ho base e i size E.ht hi v n xs hs YG hx (h v w ?_ ?_)
 ·show World.ownsRow _ _ _ _ _ _ _;rw[rW];exact YG
 ·exact⟨rfl,rfl,rfl,Zw _,fun _ _ _=>rfl⟩):p:=h
theorem Yx96{p:Prop} (h:p:=by
 exact UL (p:=2) (u:=3) (v:=4) Zr _ _ w 173 Ya (0,0) _ Zr (setRow_heap _ _ _ _ _ _ P8) underlying173 rfl X_):p:=h
theorem Yx97{p:Prop} (h:p:=by
 rw[qw];show _∈DataW.weights prog 32 (.agg (xs.map (·.1)));unfold DataW.weights;rw[underlying32];dsimp only;refine DataW.weights_mem_each (j:=4) (t:=9) (d:= .lit (.string s4.data.toList)) rfl ?_ _ (by simp[DataW.weights]);rw[List.getElem?_map,e4,gy4]
 rfl):p:=h
theorem Yx98{p:Prop} (h:p:=by
 have VC:Hid (X=((XP,0),1)):=by show _=_;rw[Nn.o,ZU Zo]
 have dw:((Lg:Int)!=(R:Int))=true:=by rw[RH];omega
 exact Yx1):p:=h
theorem Yx99{p:Prop} (h:p:=by
 have VC:Hid (X=((XP,0),1)):=by show _=_;rw[Nn.o,ZU Zo]
 have dh:decide (15<(m:Int))=true:=Ww Zo
 exact Yx1):p:=h
theorem bP{p:Prop} (h:p:=by
 go_enter func171,ntmps171;go_wp2_with (first|(go_at_call 155;refine CG.o.mono ?_;rintro e w' ⟨rfl,rfl⟩)|(go_at_call 182;refine HCZ.o.mono ?_;rintro e w' ⟨rfl,rfl⟩))
 go_ret2
 exact⟨rfl,rfl⟩):p:=h
theorem bQ{p:Prop} (h:p:=by
 rw[iW]at gT;clear ht iW;go_wp2_with (go_at_call 156;refine(CI.o _ (Z' _ _)).mono ?_;rintro e w1 ⟨rfl,rfl⟩)
 go_roundw
 case rel=>exact⟨k+1,Zo,Zn,WX.trans ((Z' _ _).mono WX.size),HF.o⟩
 case measure=>simp[intOf];omega):p:=h
theorem bR{p:Prop} (h:p:=by
 obtain⟨rfl,rfl⟩:=h0 rfl;have:news=[]:=AH (by rw[hl,Nat.zero_mul]);subst this;refine⟨v,w,run_append_owned_none (P:=P) (w:=w) base t ty e i size E.ht hi v n xs YG,?_,⟨rfl,rfl,rfl,Zw _,fun _ _ _=>rfl⟩⟩
 rw[rW];exact YG):p:=h
theorem kj{p:Prop} (h:p:=by
 clear HX;go_enter func143,ntmps143;go_wp2_with fail
 go_ret
 exact⟨by rw[VC.o];rfl,rfl⟩):p:=h
theorem bS{p:Prop} (h:p:=by
 clear hR;go_enter func110,ntmps110;go_wp2_with (go_at_call 140;refine(C.o _ tY).mono ?_;rintro e w1 ⟨⟨tv,rfl,SX⟩,Xn,Wm⟩)
 go_ret
 exact Td HF SX Xn tY Wm):p:=h
theorem bT{p:Prop} (h:p:=by
 by_cases hx:x0=n
 ·have HF:=Zh (HH.o (by rw[hx];simp));subst hx;go_wp2;go_ret;exact⟨YS HF.o.symm,WX.alloc WX.size _⟩
 ·have sk:(x0==n)=false:=by rw[WM];exact hx
  have HF:=Zh (HM.o sk);clear hx
  exact fI):p:=h
theorem Yx108{p:Prop} (h:p:=by
 have hl:s.data.toList.length=s.size:=(Lib.size_eq s).symm;have h1:=(Kf s.data.toList k).1 Zo;refine⟨h1,?_,kM _ _ Zo,?_⟩
 ·rw[Fi _ _ Zo,decodeL_drop]
 ·rw[Ve h1,rn_at _ _ h1,decodeL_drop]):p:=h
theorem Yx110{p:Prop} (h:p:=by
 have e:(w.alloc (.cells (Qa kd p n q (str nm) sa ss.length sc ba bl bc) 32)).heap.size=w.heap.size+1:=by show(w.heap.push _).size=_;rw[Ou]
 rw[e]at h
 exact h):p:=h
theorem bU{p:Prop} (h:p:=by
 go_roundw
 case rel=>exact⟨k+1,Zo,Zn,WX.trans (Zb.mono WX.size),OB Uk Zb.size,Ih,fun j hj=>by by_cases Ik:j<k;exact Ov.o j Ik;rw[show j=k by omega];exact HF.o⟩
 case measure=>simp[intOf];omega):p:=h
theorem Yx112{p:Prop} (h:p:=by
 rw[show j/7*7+j%7=j by omega]at this;rw[this,←(hY (j/7) hi).1 (j%7) Zo];rw[Ka ha];unfold Addr.add;split
 ·rename_i e;rw[show a.off+j=a.off+j/7*7 by omega]
 ·rw[show a.off+j=a.off+j/7*7+j%7 by omega]):p:=h
theorem bV{p:Prop} (h:p:=by
 obtain⟨g,off,cap,h1,h2,h3,h4,h5⟩:=h.open (by rw[VU];exact hl);refine⟨g,off,cap,h1,h2,h3,h4,fun j hj=>?_⟩;rw[h5 j (by rw[VU];exact hj),Q_,Ve hj]
 simp[YN,hj]):p:=h
theorem km{p:Prop} (h:p:=by
 have h3:=T8.o.trans (T4.o.mono Zo (fun _ _ h=>h))
 exact(h3.alloc Zo _).grown HG.o Uf (YL Yk.o)):p:=h
theorem bW{p:Prop} (h:p:=by
 exfalso
 have WN:(XY b).1 ≠ .Yb l:=by
  unfold XY;split
  ·exact fun h=>by cases h
  split
  ·exact fun h=>by cases h
  split
  ·exact fun h=>by cases h
  split
  ·exact fun h=>by cases h
  ·exact fun h=>by cases h
 exact WN hv):p:=h
theorem bY{p:Prop} (h:p:=by
 show _=_;rw[jJ.o,Z3];rw[List.any_eq_true];rintro⟨x,hx,NK⟩;obtain⟨j,hj,rfl⟩:=List.getElem_of_mem hx;have:=Ov.o j Zo;rw[Q_,Ve hj]at this
 simp at NK this;omega):p:=h
theorem bZ{p:Prop} (h:p:=by
 intro wS Ub;(try dsimp only at Ub)
 refine(Xq 59 (.tmp 3) ?_ w 0 ?_ (Qb p sr b f) _ Ub.1 underlying59 rfl X_).trans ?_
 all_goals rfl):p:=h
theorem ko{p:Prop} (h:p:=by
 (try dsimp only)
 first|exact ZB.o _ H3.o.Y8 mB|exact ZB.o _ H2.o.Y8 TY|exact ZB.o _ H1d.o.Y8 aR):p:=h
theorem kp{p:Prop} (h:p:=by
 go_quiet (fail)
 have Yg:=Zh (below_drewN HB.o nq);go_wp2_with fail
 go_ret
 exact⟨by rw[HX.o];rfl,Yg.o⟩):p:=h
theorem b9{p:Prop} (h:p:=by
 go_wp2;go_roundw
 case rel=>exact⟨k+1,Zo,Zn,T8.o.alloc Uk _,by rw[HF.o];exact Xx.o.below (Z' _ _),by rw[HF.o];exact Yk.o.alloc _⟩
 case measure=>simp[intOf];omega):p:=h
theorem b_{p:Prop} (h:p:=by
 have HF:Hid (Bu=0):=by
  show _=_;rw[HP4.o,Z3];rw[List.any_eq_true];rintro⟨j,hj,hj2⟩;rw[Ov.o j (by simp at hj;omega)]at hj2;cases hj2
 go_wp2;go_ret
 exact⟨YS HF.o.symm,WX⟩):p:=h
theorem cd{p:Prop} (h:p:=by
 rw[show get (b.take (4+4*long b)) 4 4=get b 4 4 from A3 (p:=4) (q:=4) Zo hb Zo Zo]
 exact PD (b:=b) (m:=4*long b) (p:=0) (q:=4) Zo hb Zo Zo):p:=h
theorem cf{p:Prop} (h:p:=by
 rw[show get (b.take (4+4*long b)) 8 4=get b 8 4 from A3 (p:=8) (q:=4) Zo hb Zo Zo]
 exact PD (b:=b) (m:=4*long b) (p:=4) (q:=4) Zo hb Zo Zo):p:=h
theorem cg{p:Prop} (h:p:=by
 obtain⟨dN,gF⟩:=hcut;obtain⟨va,vc,rfl,-,-⟩:=id dN;go_wp2;go_ret;rw[nV.o]
 exact⟨⟨_,rfl,dN⟩,xy.o.below gF,bF.o.trans ((Fr.Z6 _ gF).mono FI (fun _ _ h=>h))⟩):p:=h
theorem cj{p:Prop} (h:p:=by
 go_enter func83,ntmps83;go_wp2_with fail
 refine(CP.o _).mono ?_;rintro e w1 ⟨rfl,rfl⟩;go_wp2_with fail
 refine(CN.o _).mono ?_
 exact Yx75):p:=h
theorem ck{p:Prop} (h:p:=by
 have hkk:k=L.length:=by omega
 have hT:L.take k=L:=by rw[hkk,n9]
 rw[hT]at Yk;clear hT ZW;go_wp2;go_ret;rw[HM0.o]
 exact⟨⟨_,rfl,Row.Z4 Yk.o⟩,Xx.o,T8.o⟩):p:=h
theorem cr{p:Prop} (h:p:=by
 (try dsimp only)
 with_reducible first|exact Rv.o _ (ZF (YI _ _).drew (Zw _) _)|exact Rv.o _ (Z0 (ZF (YI _ _).drew (Zw _) _) (Zw _) _)):p:=h
theorem ct{p:Prop} (h:p:=by
 go_enter func171,ntmps171;go_wp2_with (go_at_call 155;refine CG.o.mono ?_;rintro e w' ⟨rfl,rfl⟩)
 go_ret2
 exact⟨rfl,rfl⟩):p:=h
theorem cx{p:Prop} (h:p:=by
 go_quiet ((go_at_call 115;exact Calls.quiet_of_same (CL.o _)))
 have Yg:=Zh (below_drewN HB.o nq);clear CL;go_wp2_with fail
 go_ret
 exact⟨by rw[HX.o];rfl,Yg.o⟩):p:=h
theorem cy{p:Prop} (h:p:=by
 clear ZW;go_enter func122,ntmps122;go_wp2;go_ret
 exact⟨YS HF.o.symm,Z' _ _⟩):p:=h
theorem cz{p:Prop} (h:p:=by
 clear HE D4;go_upto_region 9 with fail
 go_quiet (fail)
 go_wp2;go_roundw
 case rel=>exact⟨q,Zo,rfl,HE3.o,below_drewN Sv.o _,below_drewN HBEL2.o _⟩
 case measure=>simp[intOf]):p:=h
theorem Yx136{p:Prop} (h:p:=by
 obtain⟨g,off,cap,h1,_,_,_,h5⟩:=vD Yy 2 (fun _=>rfl) Zo h hl
 exact⟨g,off,(slice_inj h1).1,fun i x hx=>⟨h5 i x hx 0 Zo,h5 i x hx 1 Zo⟩⟩):p:=h
theorem cA{p:Prop} (h:p:=by
 rw[←g2];show WZ (WZ (opens R) ⟨1,o.peer,o.source,o.ZI,0⟩) t2=_;unfold WZ;rw[Z3 (show¬t2.kind=1 by omega),Z3 (show¬t2.kind=2 by omega),ZU rfl]
 rfl):p:=h
theorem cB{p:Prop} (h:p:=by
 go_enter func160,ntmps160;go_wp2_with fail
 refine CO.o.mono ?_;rintro e w' ⟨rfl,rfl⟩;go_wp2_with fail
 go_ret3
 exact⟨rfl,rfl⟩):p:=h
theorem cC{p:Prop} (h:p:=by
 exact VD (v:= .tuple (Qo (Qn 0 0 0) 2)) (by simp[results,results152,go_sem]) rfl ⟨rfl,Z' _ _⟩):p:=h
theorem cD{p:Prop} (h:p:=by
 exact VD (v:= .tuple (Qo (Qn 0 0 0) 1)) (by simp[results,results152,go_sem]) rfl ⟨rfl,Z' _ _⟩):p:=h
theorem cE{p:Prop} (h:p:=by
 have hn:(i:Int)<n:=by omega
 have h0:(0:Int)≤i:=by omega
 simp[Instr.index,asIntOf,Sem.run_bind,run_underlying h w,h0,hi,part,gD,sizeOf,typeInfo,hq,dO,hy]):p:=h
theorem cF{p:Prop} (h:p:=by
 go_enter func141,ntmps141;go_wp2;go_ret
 exact⟨⟨_,rfl,by rw[HF.o];exact Row.nil _ _⟩,YI _ _⟩):p:=h
theorem cG{p:Prop} (h:p:=by
 rw[Z3 e]
 have:(decide (m=n)&&decide (q=p))=false:=by
  rw[J8];intro h;simp only[UW,Sz]at h;exact e h
 rw[this];rfl):p:=h
theorem cH{p:Prop} (h:p:=by
 have hT:L.take k=L:=EM Zo;rw[hT]at Yk;clear hT ZW;go_wp2;go_ret;rw[nT.o]
 exact⟨⟨_,rfl,Row.Z4 Yk.o⟩,Vm.o,T8.o⟩):p:=h
theorem cI{p:Prop} (h:p:=by
 refine⟨h.Zf.setCell Zi _,?_,?_⟩
 ·have:=h.ub;simp[World.setCell,Array.getElem?_modify,this]
 ·have:=h.Y8
  simp[World.setCell,Array.getElem?_modify,this]):p:=h
theorem cJ{p:Prop} (h:p:=by
 clear ZW;go_enter func134,ntmps134;go_wp2;go_ret
 exact⟨YS HF.o.symm,Z' _ _⟩):p:=h
end Go.Proofs
