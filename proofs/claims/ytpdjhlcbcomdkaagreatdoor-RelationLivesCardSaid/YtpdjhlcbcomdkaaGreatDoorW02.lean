/- Part of a proof. -/
import Derived.Test.YtpdjhlcbcomdkaaGreatDoorW01
import Derived.Test.YtpdjhlcbcomdkaaGreatDoorW0Y
set_option linter.unusedVariables false
set_option linter.unusedSimpArgs false
set_option maxRecDepth 100000
set_option maxHeartbeats 16000000
open Go Go.Q
namespace Go.Proofs
theorem cC {p:Prop} (h:p:=by
 have Ub:=H1.o.z
 have UN:=H1.o.Za
 go_wp2_with (first|(go_at_call 116;refine CW.o.mono ?_;rintro e w' ⟨rfl,rfl⟩)|(with_reducible refine Y8 173 (.tmp 5) rfl ?_;refine Y9 rfl 173 (.tmp 5) rfl (w.heap.size+1) rfl 173 YY (0,0) _ UN Tryz.underlying173 rfl ZB ?_)|(with_reducible refine ZU 173 (.tmp 2) (.tmp 74) rfl ?_;refine ZW rfl 173 (.tmp 2) (.tmp 74) rfl rfl w.heap.size YY rfl rfl 173 YY Ub ZB ZB ZB ?_))
 refine VJ (v:= .tuple (Qq YY 0 1)) ?_ rfl ?_
 ·exact ct
 exact UL.o _ 1 Ub H1.o.Zj Vs.o):p:=h
theorem Yx2 {p:Prop} (h:p:=by
 clear I5 IW Uz
 have Ub:=H1.o.z
 go_wp2_with (first|(go_at_call 116;refine CW.o.mono ?_;rintro e w' ⟨rfl,rfl⟩)|(go_at_call 117;refine CI.o.mono ?_;rintro e w4 ⟨⟨a,rfl,hit⟩,OE⟩;obtain ⟨xa,xc,ya,yc,za,zc,ha,ML⟩:=Lt hit;subst ha;have yL:=Zh ML;have vh:=(OE.block w.heap.size (ZV Ub)).trans Ub;have Uc:=Zh (H1.o.Zj.trans (OE.mono H1.o.Zj.size));clear hit ML OE)|(with_reducible refine ZU 173 (.tmp 2) (.tmp 88) rfl ?_;refine ZW rfl 173 (.tmp 2) (.tmp 88) rfl rfl w.heap.size (Qd i.kind i.Yy i.Iw i.time i.WZ i.octets xa i.blocks.length xc ya i.gone.length yc i.X7 za i.XF.length zc) rfl rfl 173 YY vh ZB ZB ZB ?_))
 refine VJ (v:= .tuple (Qq (Qd i.kind i.Yy i.Iw i.time i.WZ i.octets xa i.blocks.length xc ya i.gone.length yc i.X7 za i.XF.length zc) (Z:Int) 0)) ?_ rfl ?_
 ·exact Yt11
 exact ⟨⟨_,by rw [Vs.o],by rw [Vs.o];exact NF (yL.o.setRow vh _)⟩,Z3 Uc.o (Zw _) _⟩):p:=h
theorem Yx3 {p:Prop} (h:p:=by
 have Vs:Hid (X=((XX,0),2)):=by show _=_;rw [l_.o,ZQ T5]
 have dz:decide ((b.length:Int)<(Z:Int))=true:=We Zo
 have Ub:=H1.o.z
 have UN:=H1.o.Za
 go_wp2_with (first|(go_at_call 116;refine CW.o.mono ?_;rintro e w' ⟨rfl,rfl⟩)|(with_reducible refine Y8 173 (.tmp 5) rfl ?_;refine Y9 rfl 173 (.tmp 5) rfl (w.heap.size+1) rfl 173 YY (0,0) _ UN Tryz.underlying173 rfl ZB ?_)|(with_reducible refine ZU 173 (.tmp 2) (.tmp 82) rfl ?_;refine ZW rfl 173 (.tmp 2) (.tmp 82) rfl rfl w.heap.size YY rfl rfl 173 YY Ub ZB ZB ZB ?_))
 refine VJ (v:= .tuple (Qq YY 0 2)) ?_ rfl ?_
 ·exact ct
 exact UL.o _ 2 Ub H1.o.Zj Vs.o):p:=h
theorem Yx4 {p:Prop} (h:p:=by
 rw [dY]
 go_upto_region 10 with (go_at_call 93;refine CI.o.mono ?_;rintro e w2 ⟨⟨a,rfl,hit⟩,Y0⟩;obtain ⟨xa,xc,ya,yc,za,zc,ha,ML⟩:=Lt hit;subst ha;have yL:=Zh ML;have X6:=Zh Y0;clear hit ML Y0)
 clear CI
 have IG:Hid (Below w w (w2.alloc (.cells (Qd i.kind i.Yy i.Iw i.time i.WZ i.octets xa i.blocks.length xc ya i.gone.length yc i.X7 za i.XF.length zc) 173))):=ZC (SG.o.trans (X6.o.mono T5)) (Zw _) _
 by_cases R9:er=0
 rotate_left
 ·have DZ:Hid (X=([],er)):=by show _=_;rw [HX.o,O5.o,HE.o R9]
  have bl:(er != 0)=true:=by rw [R6];exact R9
  clear HX O5 HE
  go_wp2_with fail
  go_ret2
  exact ⟨⟨.slice none 0 0,by rw [DZ.o];rfl,by rw [DZ.o];exact YI.nil _⟩,IG.o⟩
 subst R9
 have hnr:n≤r.length:=jo.o Cb
 obtain ⟨a2,Uz,-,Z0⟩:=SV (P:=Tryz.prog) VL ra r.length rc n hnr iP
 have Vi:=Zh Z0
 have yV:=Z7 w2 (.cells (Qd i.kind i.Yy i.Iw i.time i.WZ i.octets xa i.blocks.length xc ya i.gone.length yc i.X7 za i.XF.length zc) 173)
 have Im:=X6.o.size
 have Gb:Hid (Below w w ((w2.alloc (.cells (Qd i.kind i.Yy i.Iw i.time i.WZ i.octets xa i.blocks.length xc ya i.gone.length yc i.X7 za i.XF.length zc) 173)).alloc (.cells (Qd i.kind i.Yy i.Iw i.time i.WZ i.octets xa i.blocks.length xc ya i.gone.length yc i.X7 za i.XF.length zc) 173))):=ZC IG.o (Zw _) _
 have Cz:Below w2 w2 ((w2.alloc (.cells (Qd i.kind i.Yy i.Iw i.time i.WZ i.octets xa i.blocks.length xc ya i.gone.length yc i.X7 za i.XF.length zc) 173)).alloc (.cells (Qd i.kind i.Yy i.Iw i.time i.WZ i.octets xa i.blocks.length xc ya i.gone.length yc i.X7 za i.XF.length zc) 173)):=ZC (Z' w2 _) (Zw _) _
 have Oc:=Zh (Yx (Yx Yl.o X6.o) Cz)
 have uC:Hid (∀ x∈L++[⟨i,.slice xa i.blocks.length xc,.slice ya i.gone.length yc,.slice za i.XF.length zc⟩],Uo ((w2.alloc (.cells (Qd i.kind i.Yy i.Iw i.time i.WZ i.octets xa i.blocks.length xc ya i.gone.length yc i.X7 za i.XF.length zc) 173)).alloc (.cells (Qd i.kind i.Yy i.Iw i.time i.WZ i.octets xa i.blocks.length xc ya i.gone.length yc i.X7 za i.XF.length zc) 173)) x):=fun x hx=>by
  rcases D5.1 hx with h|h
  ·exact ((Ge.o x h).below X6.o).below Cz
  ·rw [Kc] at h;subst h;exact yL.o.below Cz
 have yM:=VF (w2.alloc (.cells (Qd i.kind i.Yy i.Iw i.time i.WZ i.octets xa i.blocks.length xc ya i.gone.length yc i.X7 za i.XF.length zc) 173)) 173 1 (Qd i.kind i.Yy i.Iw i.time i.WZ i.octets xa i.blocks.length xc ya i.gone.length yc i.X7 za i.XF.length zc) Zd
 rw [show (w2.alloc _).heap.size=w2.heap.size+1 by show (w2.heap.push _).size=_;rw [O6]] at yM
 replace yM:=Zh yM
 have Pr:∀ u∈((Qd i.kind i.Yy i.Iw i.time i.WZ i.octets xa i.blocks.length xc ya i.gone.length yc i.X7 za i.XF.length zc):List Value),u.oneCell'=true:=by
  intro u hu
  simp only [Mg,List.mem_nil_iff,or_false] at hu
  rcases hu with rfl|rfl|rfl|rfl|rfl|rfl|rfl|rfl|rfl|rfl <;> rfl
 have HONE:=Zh Pr
 clear Cz Z0 Pr
 go_wp2_with (first|(with_reducible refine Y8 173 (.tmp 6) rfl ?_;refine Y9 rfl 173 (.tmp 6) rfl w2.heap.size rfl 173 (Qd i.kind i.Yy i.Iw i.time i.WZ i.octets xa i.blocks.length xc ya i.gone.length yc i.X7 za i.XF.length zc) (0,0) _ yV Tryz.underlying173 rfl ZB ?_)|(at_builtin;refine YV rfl (.tmp 30) (.tmp 32) 82 rfl w.heap.size Ik (.slice oa j oc) j (L.flatMap YX) rfl Oc.o _ 1 (Qd i.kind i.Yy i.Iw i.time i.WZ i.octets xa i.blocks.length xc ya i.gone.length yc i.X7 za i.XF.length zc) rfl yM.o rfl HONE.o Zo Zo Gb.o.size (fun v' w4 HO4 HG4=>?_)))
 have HBW4:Hid (Below w w w4):=((Fr.Z8 P_ Gb.o).grown HG4.o Gb.o.size (YL Oc.o)).below
 obtain ⟨na,nc,NZ,-⟩:=Row.Z6 HO4.o
 subst NZ
 go_roundw
 case rel=>
  refine ⟨j+1,r.drop n,a2,rc-n,L++[⟨i,.slice xa i.blocks.length xc,.slice ya i.gone.length yc,.slice za i.XF.length zc⟩],Zo,by rw [UM,HLJ.o];rfl,by rw [Rx];omega,by rw [Rx],rfl,by rw [WB Zo],HBW4.o,?_,?_,?_,?_,?_⟩
  ·have h:=HO4.o
   rw [O_]
   exact h
  ·intro x hx
   exact (uC.o x hx).yR (XZ HG4.o) (Zf Oc.o Zd) (Zf Oc.o Zd) (Zf Oc.o Zd)
  ·intro w'' hb
   have h:=Vi.o w'' (RX r) (by rw [Xl];omega) (HR.o w'' hb)
   show XU w'' _ (r.drop n).length (RX (r.drop n))
   rw [Rx,←QZ]
   simpa using h
  ·intro h
   have hl:¬r.length-n=0:=by
    rcases h with h|h
    ·omega
    ·rw [Rx] at h;omega
   rw [O5.o,HM.o Cb hl,show 8-(j+1)=q by omega,N7]
   rfl
  ·intro h
   have hl:r.length-n=0:=by
    rw [Rx] at h
    omega
   rw [O5.o,Gf.o Cb hl,N7]
   rfl
 case measure=>simp [p9];omega):p:=h
theorem Yx6 {p:Prop} (h:p:=by
 refine hK.out _ _ ?_ (fun _=>?_)
 ·exact aM
 clear hK K
 try simp only [Z_.pt]
 refine wpAnyH_ready (rs:=[12]) ZB Zi ?_
 refine AllReadyH.cons (i:=12) rfl (fun K hK=>?_) ?_
 ·(first|(go_split_ands;refine Zp Zr (.const (.slice none 0 0)) (.tmp 23) 47 Zr w1.heap.size TY (.slice none 0 0) 0 [] Zr (Ua _ _ _ _) (.slice a T.ZA.length cap) T.ZA.length (T.ZA.flatMap Yz) Zr ?_ BP.o (PE _) Zo Zo ?_ ?_;(exact SH.o _ Wd);(exact Below.size Wd);intro v1 w2 Ui O5;have UF:=XH O5.o;have Yt:Below w1 w1 w2:=Heap.Below.call Wd (Zw _) UF;obtain ⟨k2,k3,k4,k5⟩:=Zz.o _ Yt)|(go_split_ands;refine Zp Zr (.tmp 24) (.tmp 30) 47 Zr w1.heap.size TY v1 (0+T.ZA.length) ([]++T.ZA.flatMap Yz) Zr ?_ _ 1 (Q0 p (str nm)) Zr ?_ Zr (LF ⟨p,nm⟩) Zo Zo ?_ ?_;(repeat (first|with_reducible exact Ui.o|with_reducible refine Xi ?_|with_reducible refine World.ownsRow.alloc ?_ _));(repeat (first|((with_reducible refine Tq _ _ 1 (Q0 p (str nm)) Zd _ ?_);rfl)|with_reducible refine Row.drew ?_|with_reducible refine Row.below ?_ UF));(exact Below.size Wd);intro v2 w3 PU KS;have Wp:Below w1 w1 w3:=Below.grown Wd KS.o (Below.size Wd) (YL Ui.o);obtain ⟨k6,k7,k8,k9⟩:=Zz.o _ Wp;obtain ⟨va,vc,hv⟩:=WI PU.o;subst hv))
  refine hK.out _ _ ?_ (fun _=>?_)
  ·exact aM
  clear hK K
  try simp only [Z_.pt]
  refine YA 13 (h:=YA 14 (h:=?_))
  refine wpAnyH_ready (rs:=[15]) ZB Zi ?_
  refine AllReadyH.cons (i:=15) rfl (fun K hK=>?_) ?_
  ·go_simp
   refine hK.out _ _ ?_ (fun _=>?_)
   ·exact aM
   clear hK K
   try simp only [Z_.pt]
   refine wpAnyH_done ZB ?_ _
   refine QY ?_
   go_wp2
   go_ret2
   obtain ⟨FA,iy⟩:=jy.o _ Wp
   have Z0:=Row.Z6 PU.o
   rw [Jy,QP] at Z0
   have Ap:=FA.Bb (l:=T.ZA++[⟨p,nm⟩]) Yo17
   exact Vo HF (Row.nil _ _) Ap (iy.setAt _ _)
  exact AllReadyH.nil
 exact AllReadyH.nil):p:=h
theorem Yx7 {p:Prop} (h:p:=by
 refine hK.out _ _ ?_ (fun _=>?_)
 ·exact aM
 clear hK K
 try simp only [Z_.pt]
 refine wpAnyH_ready (rs:=[8]) ZB Zi ?_
 refine AllReadyH.cons (i:=8) rfl (fun K hK=>?_) ?_
 ·(first|(go_split_ands;refine Zp Zr (.const (.slice none 0 0)) (.tmp 79) 49 Zr V.heap.size Ur (.slice none 0 0) 0 [] Zr (Ua _ _ _ _) (.slice a T.Z5.length cap) T.Z5.length (T.Z5.flatMap Zv) Zr ?_ BP.o (TI _) Zo Zo ?_ ?_;(exact SH.o _ Wd);(exact Below.size Wd);intro v1 w2 Ui O5;have UF:=XH O5.o;have Yt:Below V V w2:=Heap.Below.call Wd (Zw _) UF;have r2:Below w2 w2 w2:=YH _ _;obtain ⟨k2,k3⟩:=Zz.o _ Yt)|(go_split_ands;refine Zp Zr (.tmp 80) (.tmp 82) 49 Zr V.heap.size Ur v1 (0+T.Z5.length) ([]++T.Z5.flatMap Zv) Zr ?_ _ 1 (Qk p n la false) Zr ?_ Zr (LW ⟨p,n,la,false⟩) Zo Zo ?_ ?_;(exact Zy Ui.o Wd);(repeat (first|((with_reducible refine Tq _ _ 1 (Qk p n la false) Zd _ ?_);rfl)|with_reducible refine Row.drew ?_|with_reducible refine Row.below ?_ UF));(exact Below.size Wd);intro v2 w3 PU KS;have Wp:Below V V w3:=Below.grown Wd KS.o (Below.size Wd) (YL Ui.o);obtain ⟨k6,k7⟩:=Zz.o _ Wp;obtain ⟨va,vc,hv⟩:=WI PU.o;subst hv))
  refine hK.out _ _ ?_ (fun _=>?_)
  ·exact aM
  clear hK K
  try simp only [Z_.pt]
  refine YA 9 (h:=YA 10 (h:=?_))
  refine wpAnyH_ready (rs:=[11]) ZB Zi ?_
  refine AllReadyH.cons (i:=11) rfl (fun K hK=>?_) ?_
  ·go_simp
   refine hK.out _ _ ?_ (fun _=>?_)
   ·exact aM
   clear hK K
   try simp only [Z_.pt]
   refine wpAnyH_done ZB ?_ _
   refine QY ?_
   go_wp2_with fail
   go_meet
   obtain ⟨FA,iy⟩:=jy.o _ Wp
   have Z0:=Row.Z6 PU.o
   rw [Jy,QP] at Z0
   have Ap:=FA.LN (l:=T.Z5++[⟨p,n,la,false⟩]) Yo14
   exact ⟨Ap,iy.setAt _ _,(Fr.Z8 _ Wp).setAt _ _⟩
  exact AllReadyH.nil
 exact AllReadyH.nil):p:=h
theorem Yx8 {p:Prop} (h:p:=by
 clear hK K
 try simp only [Z_.pt]
 refine YP 31 (h:=YP 32 (h:=?_))
 refine YR 33 (h:=fun K hK=>?_)
 go_simp
 have HO:=Zh (HO.o.fC 5 (.slice xa (ws.length+1) xc) (.slice xa (ws.length+1) xc) (.slice ca cs.length cc) (.slice qa qs.length qc) rfl)
 refine Z_.Ye hK _ _ ZB ?_
 clear hK K
 try simp only [Z_.pt]
 refine YP 34 (h:=YP 35 (h:=?_))
 refine YR 36 (h:=fun K hK=>?_)
 go_simp
 have HO:=Zh (HO.o.fC 6 (.slice ya (cs.length+1) yc) (.slice xa (ws.length+1) xc) (.slice ya (cs.length+1) yc) (.slice qa qs.length qc) rfl)
 refine Z_.Ye hK _ _ ZB ?_
 clear hK K
 try simp only [Z_.pt]
 refine YP 37 (h:=YP 38 (h:=?_))
 refine YR 39 (h:=fun K hK=>?_)
 go_simp
 have HO:=Zh (HO.o.fC 7 (.slice za (qs.length+1) zc) (.slice xa (ws.length+1) xc) (.slice ya (cs.length+1) yc) (.slice za (qs.length+1) zc) rfl)
 refine Z_.Ye hK _ _ ZB ?_
 clear hK K
 try simp only [Z_.pt]
 refine Z_.Yr ZB ?_ _
 refine QY ?_
 go_wp2_with fail
 go_meet
 exact ⟨_,_,_,HO.o⟩):p:=h
theorem Yx10 {p:Prop} (h:p:=by
 go_upto_region 11 with (go_at_call 125;refine HC.o.mono ?_;rintro e w2 ⟨⟨a0,rfl,⟨cv,ev,pv,ij,q1,q2,q3⟩⟩,Y0⟩;obtain ⟨ca,cc,F6,-⟩:=id q1;obtain ⟨ea,ec,Lm,-⟩:=id q2;obtain ⟨pa,pc,Mr,-⟩:=id q3;subst F6;subst Lm;subst Mr;dsimp only [Hj] at ij;subst ij;have HR:Hid (Vt w2 P (.slice ca P.VW.length cc) (.slice ea P.ext.length ec) (.slice pa P.ZH.length pc)):=⟨q1,q2,q3⟩;have X6:=Zh Y0;clear q1 q2 q3 Y0)
 clear HC
 have DU:Hid (Below w w (w2.alloc (.cells (Qb P.XR P.type P.seq P.time P.Yy ca P.VW.length cc P.XQ P.Yn ea P.ext.length ec pa P.ZH.length pc P.pad) 79))):=ZC X6.o (Zw _) _
 by_cases R9:er=0
 ·subst R9
  have HD:Hid (∀ w1,Below w2 w2 w1→Calls Tryz.prog 126 #[.slice pa P.ZH.length pc] w1 fun e w'=>e = .returned (.tuple (Qo (Qc (YB P.ZH).1.ZF (YB P.ZH).1.key (YB P.ZH).1.start (YB P.ZH).1.frame) (YB P.ZH).2))∧Below w1 w1 w'):=fun w1 h=>y9 _ P.ZH w1 (HR.o.p.below h).r
  rw [Z4 Zi] at HX
  generalize YB P.ZH=D at *
  obtain ⟨d,de⟩:=D
  dsimp only at HD HX
  have Im:w2.heap.size<(w2.alloc (.cells (Qb P.XR P.type P.seq P.time P.Yy ca P.VW.length cc P.XQ P.Yn ea P.ext.length ec pa P.ZH.length pc P.pad) 79)).heap.size:=by show _<(w2.heap.push _).size;rw [O6];exact Nat.lt_succ_self _
  have Z0:=Z7 w2 (.cells (Qb P.XR P.type P.seq P.time P.Yy ca P.VW.length cc P.XQ P.Yn ea P.ext.length ec pa P.ZH.length pc P.pad) 79)
  have jw:=Zh (HR.o.below (Z' w2 (.cells (Qb P.XR P.type P.seq P.time P.Yy ca P.VW.length cc P.XQ P.Yn ea P.ext.length ec pa P.ZH.length pc P.pad) 79)))
  go_upto_region 14 with (go_at_call 126;refine (HD.o _ (Z' _ _)).mono ?_;rintro e w3 ⟨rfl,VH⟩;have VT:=Zh VH;have y0:=(VH.block _ Im).trans Z0;have yY:w2.heap.size<w3.heap.size:=Pb Im VH.size;clear VH)
  have zx:=Zh (jw.o.below VT.o)
  have R4:Hid (Below w w w3):=DU.o.trans (VT.o.mono DU.o.size)
  have DV:Hid (Below w w (w3.alloc (.cells (Qc d.ZF d.key d.start d.frame) 81))):=ZC R4.o (Zw _) _
  have M4:=Zh (zx.o.below (Z' w3 (.cells (Qc d.ZF d.key d.start d.frame) 81)))
  have y1:=((Z' w3 (.cells (Qc d.ZF d.key d.start d.frame) 81)).block _ yY).trans y0
  clear Z0 jw VT HD
  by_cases iu:de=0
  ·subst iu
   rw [Z4 Zi] at HX
   go_wp2_with (with_reducible refine Y8 79 (.tmp 6) rfl ?_;refine Y9 rfl 79 (.tmp 6) rfl w2.heap.size rfl 79 (Qb P.XR P.type P.seq P.time P.Yy ca P.VW.length cc P.XQ P.Yn ea P.ext.length ec pa P.ZH.length pc P.pad) (0,0) _ y1 Tryz.underlying79 rfl ZB ?_)
   go_ret2
   exact ⟨⟨_,by rw [HX.o];rfl,by rw [HX.o];exact ⟨_,_,_,rfl,M4.o⟩⟩,DV.o⟩
  ·have bl:(de != 0)=true:=by rw [R6];exact iu
   have bl2:(de == 0)=false:=by rw [WQ];exact iu
   rw [ZQ iu] at HX
   go_wp2_with fail
   go_ret2
   exact ⟨⟨.nilIface,by rw [HX.o];rfl,by rw [HX.o];rfl⟩,DV.o⟩
 ·have bl:(er != 0)=true:=by rw [R6];exact R9
  have bl2:(er == 0)=false:=by rw [WQ];exact R9
  rw [ZQ R9] at HX
  go_wp2_with fail
  go_ret2
  exact ⟨⟨.nilIface,by rw [HX.o];rfl,by rw [HX.o];rfl⟩,DU.o⟩):p:=h
theorem Yx11 {p:Prop} (h:p:=by
 have hT':=Zh hT
 have HC:Hid (may s.data.toList=((rn s.data.toList).all (fun p=>Ix p.1) && decide (1≤(rn s.data.toList).length) && decide ((rn s.data.toList).length≤8))):=rfl
 have HU:Hid (runes s.data.toList=if (rn s.data.toList).all good then ((rn s.data.toList).length:Int) else -1):=rfl
 have CR:=Zh (xO s w hs hT)
 clear hT
 by_cases hr:1≤runes s.data.toList∧runes s.data.toList≤8
 ·obtain ⟨eF,Nf⟩:=hr
  have HL:Hid (((rn s.data.toList).length:Int)=runes s.data.toList):=by
   have:=HU.o
   split at this
   ·exact this.symm
   ·omega
  have hlen:1≤(rn s.data.toList).length∧(rn s.data.toList).length≤8:=by have:=HL.o;omega
  have Ic:Hid (may s.data.toList=(rn s.data.toList).all (fun p=>Ix p.1)):=by
   show _=_
   rw [HC.o];simp [hlen]
  generalize runes s.data.toList=q at *
  go_enter Tryz.func120,Tryz.ntmps120
  go_wp2_with (go_at_call 148;refine CR.o.mono ?_;rintro e w1 ⟨rfl,YZ⟩)
  go_loopw [4] (fun a w'=>∃ k:Nat,Below w w w'∧a = .int .i64 (cutAt s.data.toList k)∧k≤(rn s.data.toList).length∧Hid (((rn s.data.toList).take k).all (fun p=>Ix p.1)=true)) (fun a _=>s.size-(intOf a).toNat)
  case atStart=>exact ⟨0,YZ,rfl,Tw _,rfl⟩
  case round=>
   obtain ⟨k,hb,rfl,hle,UE⟩:=hrel
   by_cases hp:cutAt s.data.toList k<s.size
   ·have hwd:=Lib.decode_width_pos s _ hp
    obtain ⟨h1,h2,h3,h4⟩:=Ky s k hp
    have bo:cutAt s.data.toList k+(Utf8.decode s (cutAt s.data.toList k)).2≤s.size:=by
     have:=Gx s.data.toList (k+1);rw [←Lib.size_eq] at this;omega
    have hr0:(Utf8.decode s (cutAt s.data.toList k)).1≤1114111:=by rw [←decodeL_drop];exact decodeL_rune _
    have H2:=Zh h2
    have H4:=Zh h4
    clear h2 h4
    have CD:=Zh (mF s (cutAt s.data.toList k) wr hp (Utf8Tabs_below hT'.o hb))
    generalize hd:Utf8.decode s (cutAt s.data.toList k)=d at *
    have HD:=Zh hd
    clear hd
    obtain ⟨r,wd⟩:=d
    dsimp only at *
    have CO:Hid (∀ w,Calls Tryz.prog 150 #[.int .i32 r] w (fun e w'=>e = .returned (.bool (Ix r))∧w=w')):=by
     intro w;have:=nD (r:Int) w Zo Zo;rwa [Wv] at this
    by_cases ho:Ix r=true
    ·rw [ho] at CO
     have HO:=Zh ho
     clear ho
     go_wp2_with (first|(go_at_call 149;refine CD.o.mono ?_;rintro e w' ⟨rfl,Y0⟩)|(go_at_call 150;refine (CO.o _).mono ?_;rintro e w' ⟨rfl,rfl⟩))
     go_roundw
     case rel=>exact ⟨k+1,hb.trans (Y0.mono hb.size),by rw [H2.o];go_num,Zo,K6 UE.o H4.o HO.o⟩
     case measure=>simp [intOf];omega
    ·have ho:Ix r=false:=by simpa using ho
     rw [ho] at CO
     have HF:Hid (may s.data.toList=false):=by
      show _=_
      rw [Ic.o];exact Ce H4.o ho
     clear ho
     go_wp2_with (first|(go_at_call 149;refine CD.o.mono ?_;rintro e w' ⟨rfl,Y0⟩)|(go_at_call 150;refine (CO.o _).mono ?_;rintro e w' ⟨rfl,rfl⟩))
     go_ret
     exact ⟨Xy HF.o.symm,hb.trans (Y0.mono hb.size)⟩
   ·have hend:=Dr s k hp
    have HF:Hid (may s.data.toList=true):=by
     show _=_
     have e:(rn s.data.toList).length=k:=by omega
     have h:=UE.o
     rw [←e,nZ] at h
     rw [Ic.o,h]
    go_wp2
    go_ret
    exact ⟨Xy HF.o.symm,hb⟩
 ·have HF:Hid (may s.data.toList=false):=by
   show _=_
   rw [K4];intro hm
   have hv:=EG hm
   have hu:=HU.o
   rw [ZQ hv] at hu
   unfold may at hm
   simp at hm
   omega
  generalize runes s.data.toList=q at *
  by_cases hq:q<1
  ·go_enter Tryz.func120,Tryz.ntmps120
   go_wp2_with (go_at_call 148;refine CR.o.mono ?_;rintro e w1 ⟨rfl,YZ⟩)
   go_ret
   exact ⟨Xy HF.o.symm,YZ⟩
  ·have tB:8<q:=by omega
   clear hr
   go_enter Tryz.func120,Tryz.ntmps120
   go_wp2_with (go_at_call 148;refine CR.o.mono ?_;rintro e w1 ⟨rfl,YZ⟩)
   go_ret
   exact ⟨Xy HF.o.symm,YZ⟩):p:=h
theorem Yx12 {p:Prop} (h:p:=by
 have CM:=Zh (AZ s w hs hT)
 have HK:Hid (key s.data.toList=if may s.data.toList then s.data.toList.map low else []):=rfl
 have HL:Hid (s.data.toList.length=s.size):=(Lib.size_eq s).symm
 clear hT
 by_cases hm:may s.data.toList=true
 ·have HF:Hid (key s.data.toList=s.data.toList.map low):=by show _=_;rw [HK.o,ZQ hm]
  rw [hm] at CM
  clear hm
  have hconv:∀ w,(convert 9 30 (.string s)).run Tryz.prog w=_:=fun w=>Go.Lib.run_convert_string_bytes w 9 30 5 s Tryz.underlying9 Tryz.underlying30 Tryz.underlying5
  go_enter Tryz.func121,Tryz.ntmps121
  go_wp2_with (first|(go_at_call 120;refine CM.o.mono ?_;rintro e w1 ⟨rfl,hb⟩))
  have YZ:=hb.trans ((zO w1 5 s).mono hb.size)
  have eF:=LM w1 5 s
  have hB:w.heap.size≤w1.heap.size:=hb.size
  generalize grownCap w1 s.size 0 5=cap
  generalize bytesWorld w1 5 s=wB at *
  generalize w1.heap.size=B at *
  clear hconv hb
  go_loopw [13] (fun i w'=>∃ k:Nat,Below w w w'∧i = .int .i64 k∧k≤s.size∧M0 w' B 0 ((s.data.toList.take k).map low++s.data.toList.drop k)) (fun i _=>s.size-(intOf i).toNat)
  case atStart=>exact ⟨0,YZ,rfl,Tw _,by simpa using eF⟩
  case round=>
   obtain ⟨k,hb,rfl,hle,Z0⟩:=hrel
   have HR:=Zh Z0
   clear Z0 eF
   have hML:((s.data.toList.take k).map low++s.data.toList.drop k).length=s.size:=by
    simp only [UM,Tx,Tg,Rx,HL.o];omega
   have qW:=Zh hML
   clear hML
   by_cases hk:k<s.size
   ·have hc:=(HR.o k (by rw [qW.o];exact hk)).1
    have KN:=(HR.o k (by rw [qW.o];exact hk)).2
    rw [QP] at hc KN
    rw [EF _ _ (by rw [HL.o];exact hk)] at hc
    have HS:=Zh (xH s.data.toList k (by rw [HL.o];exact hk))
    have hx:=UInt8.toNat_lt (s.data.toList.getD k 0)
    have HW:∀ x:UInt8,M0 (wr.setCell ⟨B,k,none⟩ (.int .u8 x.toNat)) B 0 (((s.data.toList.take k).map low++s.data.toList.drop k).set k x):=by
     intro x
     have:=lO HR.o (i:=k) x
     rwa [QP] at this
    have HW:=Zh HW
    generalize rD:s.data.toList.getD k 0=x at *
    have HX:=Zh rD
    clear rD
    have HU:=Zh (fo x)
    have HI:=Zh (fk x)
    by_cases c1:65≤x.toNat
    ·by_cases c2:x.toNat≤90
     ·have e:Hid (Value.int .u8 (x.toNat+32:Nat) = .int .u8 (low x).toNat):=by show _=_;rw [HU.o c1 c2]
      go_wp2
      go_roundw
      case rel=>
       refine ⟨k+1,hb.setCell Uq _,Zn,Zo,?_⟩
       have:=HW.o (low x)
       rw [HS.o,HU.o c1 c2] at this
       simpa using this
      case measure=>simp [intOf];omega
     ·exact Yt12
    ·exact Yt12
   ·have hk:k=s.size:=by omega
    have Z0:=HR.o
    subst hk
    rw [←HL.o,nZ,List.drop_length,wC] at Z0
    have F6:=FR (P:=Tryz.prog) (c:=cap) 30 9 5 Z0 Tryz.underlying30 Tryz.underlying5 Tryz.underlying9
    rw [Tx,HL.o] at F6
    clear Z0 HR
    go_wp2
    go_ret
    exact ⟨IA (by rw [HF.o]),hb⟩
 ·have hm:may s.data.toList=false:=by simpa using hm
  have HF:Hid (key s.data.toList=[]):=by show _=_;rw [HK.o,hm];rfl
  rw [hm] at CM
  clear hm
  go_enter Tryz.func121,Tryz.ntmps121
  go_wp2_with (first|(go_at_call 120;refine CM.o.mono ?_;rintro e w1 ⟨rfl,hb⟩))
  go_ret
  exact ⟨IA (by rw [HF.o];rfl),hb⟩):p:=h
theorem Yx13 {p:Prop} (h:p:=by
 have HR:=Zh (HR.o.far (XZ rJ.o) au.o)
 have zw:=Zh (Row.fr zw.o (XZ rJ.o) (Zw _) (Zf HC.o.XE Zd))
 have S_:Hid (Below w w w6):=((Fr.Z8 P_ S_.o).grown rJ.o S_.o.size (YL HC.o.XE)).below
 have HC:=Zh (HC.o.Ej rJ.o lS.o)
 refine Z_.Y_ hK _ _ ?_ (fun _=>?_)
 ·(try dsimp only)
  exact Zz.o _ _ HC.o.Za HR.o.tk
 clear hK K
 try simp only [Z_.pt]
 refine YR 17 (h:=fun K hK=>?_)
 refine Zp Zr (.tmp 41) (.tmp 44) 114 Zr w.heap.size K9 mv M.length (M.flatMap Xr) Zr HC.o.Lz _ 1 ([(⟨T.XT,T.Wo,.slice ca T.XT.VW.length cc,.slice ea T.XT.ext.length ec,.slice pa T.XT.ZH.length pc⟩:TW)].flatMap Xr) Zr zw.o rfl EH (by rw [qW.o];omega) (by rw [qW.o];omega) ?_ ?_
 ·exact S_.o.size
 intro v17 w7 bT BM
 have Gg:Hid (w7.ownsRow w 97 15 v17 (M++[(⟨T.XT,T.Wo,.slice ca T.XT.VW.length cc,.slice ea T.XT.ext.length ec,.slice pa T.XT.ZH.length pc⟩:TW)]).length ((M++[(⟨T.XT,T.Wo,.slice ca T.XT.VW.length cc,.slice ea T.XT.ext.length ec,.slice pa T.XT.ZH.length pc⟩:TW)]).flatMap Xr)):=(by have h:=bT.o;rw [UM,O_];exact h)
 obtain ⟨ma,mc,px,-⟩:=Row.Z6 Gg.o
 rw [show (M++[(⟨T.XT,T.Wo,.slice ca T.XT.VW.length cc,.slice ea T.XT.ext.length ec,.slice pa T.XT.ZH.length pc⟩:TW)]).length=j+1 by rw [UM,qW.o];rfl] at px
 subst px
 have HEA:Hid (∀ x∈M++[(⟨T.XT,T.Wo,.slice ca T.XT.VW.length cc,.slice ea T.XT.ext.length ec,.slice pa T.XT.ZH.length pc⟩:TW)],Vt w7 x.p x.cv x.ev x.pv):=fun x hx=>Yo12
 have HFM:Hid (yJ w6 (fun i=>mv.ownBlock=some i)):=fun i hi=>(by obtain ⟨cu,hc⟩:=Wq HC.o.Lz i hi;exact ⟨cu,_,_,hc,Wi (Wi (Ww rfl))⟩)
 have HR:=Zh (HR.o.far (XZ BM.o) HFM.o)
 have S_:Hid (Below w w w7):=((Fr.Z8 P_ S_.o).grown BM.o S_.o.size (YL HC.o.Lz)).below
 have HC:=Zh (HC.o.hH BM.o Gg.o HEA.o)
 obtain ⟨b0,b1,b2,b3,b4⟩:=HC.o.cells
 have b41:=b4 1
 have b42:=b4 2
 refine Z_.Y_ hK _ _ ?_ (fun _=>?_)
 ·(try dsimp only)
  exact Zz.o _ _ HC.o.Za HR.o.tk
 clear hK K
 try simp only [Z_.pt]
 refine YP 18 (h:=YP 19 (h:=?_))
 refine YR 20 (h:=fun K hK=>?_)
 go_simp
 have bP:Hid (yJ w7 (· = w.heap.size)):=fun i hi=>jH
 have HR:=Zh (HR.o.far (w':=w7.setCell ⟨w,1,none⟩ (.slice na (j+1) nc)) ((Fr.refl _ _ _).setAt _ _) bP.o)
 have S_:Hid (Below w w (w7.setCell ⟨w,1,none⟩ (.slice na (j+1) nc))):=((Fr.Z8 P_ S_.o).setCell (p:=⟨w,1,none⟩) (Ww (Zw _)) _).below
 have HC:=Zh (HC.o.Hs 1 (.slice na (j+1) nc))
 obtain ⟨d0,d1,d2,d3,d4⟩:=HC.o.cells
 have d42:=d4 2
 refine Z_.Ye hK _ _ ZB ?_
 clear hK K
 try simp only [Z_.pt]
 refine YP 21 (h:=YP 22 (h:=?_))
 refine YR 23 (h:=fun K hK=>?_)
 go_simp
 have bP:Hid (yJ (w7.setCell ⟨w,1,none⟩ (.slice na (j+1) nc)) (· = w.heap.size)):=fun i hi=>jH
 have HR:=Zh (HR.o.far (w':=(w7.setCell ⟨w,1,none⟩ (.slice na (j+1) nc)).setCell ⟨w,2,none⟩ (.slice ma (j+1) mc)) ((Fr.refl _ _ _).setAt _ _) bP.o)
 have S_:Hid (Below w w ((w7.setCell ⟨w,1,none⟩ (.slice na (j+1) nc)).setCell ⟨w,2,none⟩ (.slice ma (j+1) mc))):=((Fr.Z8 P_ S_.o).setCell (p:=⟨w,2,none⟩) (Ww (Zw _)) _).below
 have HC:=Zh (HC.o.Hs 2 (.slice ma (j+1) mc))
 refine Z_.Ye hK _ _ ZB ?_
 clear hK K
 try simp only [Z_.pt]
 refine Z_.Yr ZB ?_ _
 refine QY ?_
 go_wp2_with fail
 go_meet
 exact ⟨na,nc,ma,mc,HC.o,HR.o,S_.o⟩):p:=h
theorem Yx14 {p:Prop} (h:p:=by
 have HR:Hid ((rn s.data.toList).length≤s.size):=by have:=LL s.data.toList;rw [Lib.size_eq];exact this
 go_enter Tryz.func161,Tryz.ntmps161
 go_wp2
 go_loopw [3] (fun c w'=>∃ k:Nat,w'=w.iter s (cutAt s.data.toList k)∧c = .int .i64 k∧k≤(rn s.data.toList).length∧Hid (((rn s.data.toList).take k).all (fun p=>Ix p.1)=true)) (fun _ w'=>s.size-w'.iterPos w.heap.size)
 case atStart=>exact ⟨0,rfl,rfl,Tw _,rfl⟩
 case round=>
  obtain ⟨k,rfl,rfl,hle,UE⟩:=hrel
  by_cases hp:cutAt s.data.toList k<s.size
  ·have hnx:∀ ty,(Instr.next (.pointer (some ⟨w,0,none⟩)) true ty).run Tryz.prog (w.iter s (cutAt s.data.toList k))=_:=fun ty=>run_next_any w s _ ty hp
   have hwd:=Lib.decode_width_pos s _ hp
   obtain ⟨h1,h2,h3,h4⟩:=Ky s k hp
   have H2:=Zh h2
   have H4:=Zh h4
   clear h2 h4
   have hks:k<s.size:=by omega
   generalize hd:Utf8.decode s (cutAt s.data.toList k)=d at *
   have HD:=Zh hd
   clear hd
   obtain ⟨r,wd⟩:=d
   dsimp only at *
   by_cases N_:Ix r=true
   ·have HB:=Zh N_
    have hb:=N_
    unfold Ix at hb
    simp only [TU,Bool.or_eq_true,Oh,Bool.not_eq_true',WQ] at hb
    obtain ⟨⟨b1,b2⟩,b3⟩:=hb
    clear N_
    have t1:((r:Int) == 65533)=false:=by rw [WQ];omega
    clear b3
    by_cases b4:r<127
    ·clear b2
     go_wp2
     go_roundw
     case rel=>exact ⟨k+1,by rw [H2.o],Zn,Zo,K6 UE.o H4.o HB.o⟩
     case measure=>simp;omega
    ·have b5:159<r:=by omega
     clear b2
     go_wp2
     go_roundw
     case rel=>exact ⟨k+1,by rw [H2.o],Zn,Zo,K6 UE.o H4.o HB.o⟩
     case measure=>simp;omega
   ·have HF:Hid (may s.data.toList=false):=by
     show _=_
     unfold may;rw [Ce H4.o (by simpa using N_)];rfl
    have HC:Hid (r<33∨(127≤r∧r≤159)∨r=65533):=by
     show _∨_
     unfold Ix at N_
     simp at N_;omega
    clear N_
    by_cases b1:r<33
    ·go_wp2
     go_ret
     exact ⟨Xy HF.o.symm,SL _ _ _⟩
    by_cases b2:127≤r∧r≤159
    ·obtain ⟨b2,b3⟩:=b2
     go_wp2
     go_ret
     exact ⟨Xy HF.o.symm,SL _ _ _⟩
    ·have b3:r=65533:=by have:=HC.o;omega
     subst b3
     go_wp2
     go_ret
     exact ⟨Xy HF.o.symm,SL _ _ _⟩
  ·have hnx:∀ ty,(Instr.next (.pointer (some ⟨w,0,none⟩)) true ty).run Tryz.prog (w.iter s (cutAt s.data.toList k))=_:=fun ty=>run_next_end w s _ ty hp
   have hend:=Dr s k hp
   have HM:Hid (may s.data.toList=(decide (1≤k) && decide (k≤8))):=by
    show _=_
    have e:(rn s.data.toList).length=k:=by omega
    have h:=UE.o
    rw [←e,nZ] at h
    unfold may;rw [h,e,Bool.true_and]
   by_cases c1:1≤k
   ·by_cases c2:k≤8
    ·go_wp2
     go_ret
     exact ⟨Xy (by rw [HM.o];first|(simp [c1,c2];done)|(simp [c1,c2];omega)),SL _ _ _⟩
    ·go_wp2
     go_ret
     exact ⟨Xy (by rw [HM.o];first|(simp [c1,c2];done)|(simp [c1,c2];omega)),SL _ _ _⟩
   ·go_wp2
    go_ret
    exact ⟨Xy (by rw [HM.o];first|(simp [c1];done)|(simp [c1];omega)),SL _ _ _⟩):p:=h
theorem sk {p:Prop} (h:p:=by
 have h:=Z7 (w.alloc (.cells YY 173)) (.cells YY 173)
 rw [show (w.alloc (.cells YY 173)).heap.size=w.heap.size+1 by show (w.heap.push _).size=_;rw [O6]] at h
 exact h):p:=h
theorem Yx17 {p:Prop} (h:p:=by
 have HR:Hid ((rn s.data.toList).length≤s.size):=by have:=LL s.data.toList;rw [Lib.size_eq];exact this
 have hT':=Zh hT
 clear hT
 go_enter Tryz.func148,Tryz.ntmps148
 go_wp2
 go_loopw [3,4] (fun n a w'=>∃ k:Nat,Below w w w'∧n = .int .i64 k∧a = .int .i64 (cutAt s.data.toList k)∧k≤(rn s.data.toList).length∧Hid (((rn s.data.toList).take k).all good=true)) (fun _ a _=>s.size-(intOf a).toNat)
 case atStart=>exact ⟨0,YH _ _,rfl,rfl,Tw _,rfl⟩
 case round=>
  obtain ⟨k,hb,rfl,rfl,hle,UE⟩:=hrel
  by_cases hp:cutAt s.data.toList k<s.size
  ·have hwd:=Lib.decode_width_pos s _ hp
   obtain ⟨h1,h2,h3,h4⟩:=Ky s k hp
   have bo:cutAt s.data.toList k+(Utf8.decode s (cutAt s.data.toList k)).2≤s.size:=by
    have:=Gx s.data.toList (k+1);rw [←Lib.size_eq] at this;omega
   have H2:=Zh h2
   have H4:=Zh h4
   clear h2 h4
   have hks:k<s.size:=by omega
   have CD:=Zh (mF s (cutAt s.data.toList k) wr hp (Utf8Tabs_below hT'.o hb))
   by_cases hg:good (Utf8.decode s (cutAt s.data.toList k))=true
   ·generalize hd:Utf8.decode s (cutAt s.data.toList k)=d at *
    have HD:=Zh hd
    clear hd
    have hG:¬(d.1=65533∧d.2=1):=by unfold good at hg;intro h;simp [h] at hg
    have HG:=Zh hg
    clear hg
    obtain ⟨r,wd⟩:=d
    dsimp only at *
    by_cases g1:r=65533
    ·have g2:((wd:Int) == 1)=false:=by rw [WQ];omega
     subst g1
     clear hG
     exact Yt17
    ·have g2:((r:Int) == 65533)=false:=by rw [WQ];omega
     clear hG g1
     exact Yt17
   ·have hg:good (Utf8.decode s (cutAt s.data.toList k))=false:=by simpa using hg
    have HF:Hid (runes s.data.toList = -1):=by
     show _=_
     unfold runes;rw [Ce H4.o hg];rfl
    have hd:=wL hg
    rw [hd] at CD
    clear hg hd
    go_wp2_with (go_at_call 149;refine CD.o.mono ?_;rintro e w' ⟨rfl,Y0⟩)
    go_ret
    exact ⟨YW HF.o.symm,hb.trans (Y0.mono hb.size)⟩
  ·have hend:=Dr s k hp
   have HF:Hid (runes s.data.toList=(k:Int)):=by
    show _=_
    have e:(rn s.data.toList).length=k:=by omega
    have h:=UE.o
    rw [←e,nZ] at h
    unfold runes;rw [ZQ h,e]
   go_wp2
   go_ret
   exact ⟨YW HF.o.symm,hb⟩):p:=h
theorem cD {p:Prop} (h:p:=by
 go_wp2_with (first|(go_at_call 78;refine (QK 5 0 _).mono ?_;rintro e w5 ⟨⟨cs,rfl,PV⟩,Lj⟩;have P7:=Zh (Uc.o.trans (Lj.mono Uc.o.size));have JR:=(P7.o.block (w.heap.size+1) (ZV HZ.o)).trans HZ.o;have hi:=QM PV;have hold:=QL PV;have Pr:=PV.one;have J7:=Zh PV;clear PV Lj)|(with_reducible refine ZU 100 (.tmp 6) (.tmp 48) rfl ?_;refine ZW rfl 100 (.tmp 6) (.tmp 48) rfl rfl (w.heap.size+1) cs.toArray rfl rfl 100 Xv JR hi hold Pr ?_))
 refine VJ (v:= .agg cs.toArray) ?_ rfl ?_
 ·exact cx
 exact ⟨⟨cs,rfl,by rw [HX.o];exact J7.o.setRow JR _⟩,Z3 (R4.o.trans (P7.o.mono R4.o.size)) (IP _) _⟩):p:=h
theorem Yx19 {p:Prop} (h:p:=by
 go_enter Tryz.func151,Tryz.ntmps151
 go_wp2_with (first|(go_at_call 169;refine CK.o.mono ?_;rintro e w2 ⟨rfl,Y0⟩;have Sr:=(Y0.block w.heap.size (ZV QV)).trans QV;have X6:=Zh (VQ.o.trans (Y0.mono VQ.o.size));clear Y0)|(go_at_call 170;refine (FP _ b _ (HV.o _ X6.o)).mono ?_;rintro e w4 ⟨⟨a,rfl,hit⟩,OE⟩;generalize X4 b=RG at *;obtain ⟨⟨i,ri⟩,er⟩:=RG;dsimp only at hit;obtain ⟨xa,xc,ya,yc,za,zc,ha,ML⟩:=Lt hit;subst ha;have yL:=Zh ML;have vh:=(OE.block w.heap.size (ZV Sr)).trans Sr;have Uc:=Zh (X6.o.trans (OE.mono X6.o.size));clear hit ML OE)|(with_reducible refine ZU 173 (.tmp 2) (.tmp 36) rfl ?_;refine ZW rfl 173 (.tmp 2) (.tmp 36) rfl rfl w.heap.size (Qd i.kind i.Yy i.Iw i.time i.WZ i.octets xa i.blocks.length xc ya i.gone.length yc i.X7 za i.XF.length zc) rfl rfl 173 YY vh ZB ZB ZB ?_))
 refine VJ (v:= .tuple (Qq (Qd i.kind i.Yy i.Iw i.time i.WZ i.octets xa i.blocks.length xc ya i.gone.length yc i.X7 za i.XF.length zc) (ri:Nat) er)) ?_ rfl ?_
 ·exact Yt11
 exact ⟨⟨_,by rw [HX.o],by rw [HX.o];exact NF (yL.o.setRow vh _)⟩,Z3 Uc.o (Zw _) _⟩):p:=h
theorem Nu {p:Prop} (h:p:=by
 (try dsimp only)
 (first|exact I7.o _ (Fr.Z8 _ Wd)|exact I7.o _ (Fr.setAt (Fr.Z8 _ Wd) _ _)|go_keep)):p:=h
theorem Yx22 {p:Prop} (h:p:=by
 have hT':=Zh hT
 have CM:=Zh (uH s w hs)
 have HK:Hid (key s.data.toList=if may s.data.toList then s.data.toList.map low else []):=rfl
 clear hT
 by_cases hm:may s.data.toList=true
 ·have HF:Hid (key s.data.toList=mapD Ob s.data.toList):=by
   show _=_
   rw [HK.o,ZQ hm,qd _ (by rw [ur];exact EG hm)]
  have Im:s.size<35184372088832:=by have:=vv hm;rw [←Lib.size_eq] at this;omega
  rw [hm] at CM
  clear hm
  have CF:∀ w1,Below w w w1→Calls Tryz.prog 177 #[.func (.func 178) #[] #[],.string s] w1 fun e w'=>e = .returned (.string ⟨(Lib.mapD Ob s.data.toList).toArray⟩)∧Below w1 w1 w':=by
   intro w1 hb
   refine Tryz.strings_Map_runes 178 #[] ?_ Ob s w1 Im ?_ ?_ (Utf8Tabs_below hT'.o hb)
   ·exact fun args w=>by kernel_rfl
   ·intro W x hx _
    exact (nB (x:Int) W Zo Zo).mono fun e w' h=>⟨h.1,0,h.2.symm⟩
   ·intro x hx
    unfold Ob;split <;> omega
  have CF:=Zh CF
  go_enter Tryz.func162,Tryz.ntmps162
  go_wp2_with (first|(go_at_call 161;refine CM.o.mono ?_;rintro e w1 ⟨rfl,hb⟩)|(go_at_call 177;refine (CF.o _ S5).mono ?_;rintro e w2 ⟨rfl,Y0⟩))
  go_ret
  refine ⟨?_,hb.trans (Y0.mono hb.size)⟩
  rw [HF.o];rfl
 ·have hm:may s.data.toList=false:=by simpa using hm
  have HF:Hid (key s.data.toList=[]):=by show _=_;rw [HK.o,hm];rfl
  rw [hm] at CM
  clear hm
  go_enter Tryz.func162,Tryz.ntmps162
  go_wp2_with (first|(go_at_call 161;refine CM.o.mono ?_;rintro e w1 ⟨rfl,hb⟩))
  go_ret
  exact ⟨IA (by rw [HF.o];rfl),hb⟩):p:=h
theorem Yx23 {p:Prop} (h:p:=by
 have Vs:Hid (X=((XX,0),4)):=by show _=_;rw [lZ.o,ZQ Da]
 have dm:((m:Int) != 1)=true:=by rw [R6];omega
 have CW:=Zh (yH.o 0 0 Zo)
 have Ub:=H1.o.z
 have UN:=H1.o.Za
 go_wp2_with (first|(go_at_call 116;refine CW.o.mono ?_;rintro e w' ⟨rfl,rfl⟩)|(with_reducible refine Y8 173 (.tmp 5) rfl ?_;refine Y9 rfl 173 (.tmp 5) rfl (w.heap.size+1) rfl 173 YY (0,0) _ UN Tryz.underlying173 rfl ZB ?_)|(with_reducible refine ZU 173 (.tmp 2) (.tmp 54) rfl ?_;refine ZW rfl 173 (.tmp 2) (.tmp 54) rfl rfl w.heap.size YY rfl rfl 173 YY Ub ZB ZB ZB ?_))
 refine VJ (v:= .tuple (Qq YY 0 4)) ?_ rfl ?_
 ·exact ct
 exact UL.o _ 4 Ub H1.o.Zj Vs.o):p:=h
theorem cE {p:Prop} (h:p:=by
 rw [Fh.o] at tB
 have eD:=Row.Z6 tB
 obtain ⟨pv',BF,mB,Ll,tq,⟨ms',iT,Im,yY⟩,hu'⟩:=hr.VC
 have pK:mB = .slice (some ⟨g,0,none⟩) T.Z5.length cp:=by
  have h1:=cell_of Ll 2
  rw [(Zz.o w' h).1] at h1
  simpa using h1.symm
 subst pK
 refine ⟨⟨pv',BF,.slice (some ⟨g,0,none⟩) T.Z5.length cp,by rw [hf.block b GS (fun e=>Lp e.symm)];exact Ll,?_⟩,?_⟩
 ·rw [HT1.o]
  exact ⟨tq.fr hf (Zw _) (Ip _ Zd),⟨ms',iT,Im.fr hf (Zw _) (Ip _ Zd),fun x hx=>(yY x hx).fr hf (Zw _) (Ip _ Zd)⟩,by rw [List.length_set];exact eD⟩
 ·have h1:Fr w (· = b) w W1:=(Fr.Z8 _ Ta.o).trans (IH.o.mono Zo (fun _ _ h=>h))
  exact (h1.trans ((Fr.Z8 (· = b) h).mono Zo (fun _ _ h=>h))).setCell (Ww Uj) _):p:=h
theorem Yx26 {p:Prop} (h:p:=by
 clear Vs
 go_enter Tryz.func108,Tryz.ntmps108
 go_wp2_with (go_at_call 131;refine CO.o.mono ?_;rintro e w2 ⟨⟨n,rfl⟩,Y0⟩;have R4:=Zh (VQ.o.trans (Y0.mono VQ.o.size));have Sr:=(Y0.block w.heap.size (ZV hz)).trans hz;have c0:=cell_of Sr 0;simp only [SK,S6] at c0;clear Y0 Sr)
 go_ret2
 exact ⟨⟨.slice none 0 0,by rw [HX.o];rfl,by rw [HX.o];exact Row.nil _ _⟩,by rw [HX.o];exact HR.o.below R4.o,Fr.Z8 _ R4.o⟩):p:=h
theorem Yx27 {p:Prop} (h:p:=by
 go_simp
 refine hK.out _ _ ?_ (fun _=>?_)
 ·exact Nu
 clear hK K
 try simp only [Z_.pt]
 refine wpAnyH_ready (rs:=[5]) ZB Zi ?_
 refine AllReadyH.cons (i:=5) rfl (fun K hK=>?_) ?_
 ·(first|(go_split_ands;refine Zp Zr (.const (.slice none 0 0)) (.tmp 23) 47 Zr w1.heap.size TY (.slice none 0 0) 0 [] Zr (Ua _ _ _ _) (.slice a T.ZA.length cap) T.ZA.length (T.ZA.flatMap Yz) Zr ?_ BP.o (PE _) Zo Zo ?_ ?_;(exact SH.o _ Wd);(exact Below.size Wd);intro v1 w2 Ui O5;have UF:=XH O5.o;have Yt:Below w1 w1 w2:=Heap.Below.call Wd (Zw _) UF;obtain ⟨k2,k3,k4,k5⟩:=Zz.o _ Yt)|(go_split_ands;refine Zp Zr (.tmp 24) (.tmp 30) 47 Zr w1.heap.size TY v1 (0+T.ZA.length) ([]++T.ZA.flatMap Yz) Zr ?_ _ 1 (Q0 p (str nm)) Zr ?_ Zr (LF ⟨p,nm⟩) Zo Zo ?_ ?_;(repeat (first|with_reducible exact Ui.o|with_reducible refine Xi ?_|with_reducible refine World.ownsRow.alloc ?_ _));(repeat (first|((with_reducible refine Tq _ _ 1 (Q0 p (str nm)) Zd _ ?_);rfl)|with_reducible refine Row.drew ?_|with_reducible refine Row.below ?_ UF));(exact Below.size Wd);intro v2 w3 PU KS;have Wp:Below w1 w1 w3:=Below.grown Wd KS.o (Below.size Wd) (YL Ui.o);obtain ⟨k6,k7,k8,k9⟩:=Zz.o _ Wp;obtain ⟨va,vc,hv⟩:=WI PU.o;subst hv))
  exact Yx6
 exact AllReadyH.nil):p:=h
theorem Yx28 {p:Prop} (h:p:=by
 go_simp
 refine hK.out _ _ ?_ (fun _=>?_)
 ·exact Nu
 clear hK K
 try simp only [Z_.pt]
 refine wpAnyH_ready (rs:=[5]) ZB Zi ?_
 refine AllReadyH.cons (i:=5) rfl (fun K hK=>?_) ?_
 ·(first|(go_split_ands;refine Zp Zr (.const (.slice none 0 0)) (.tmp 79) 49 Zr V.heap.size Ur (.slice none 0 0) 0 [] Zr (Ua _ _ _ _) (.slice a T.Z5.length cap) T.Z5.length (T.Z5.flatMap Zv) Zr ?_ BP.o (TI _) Zo Zo ?_ ?_;(exact SH.o _ Wd);(exact Below.size Wd);intro v1 w2 Ui O5;have UF:=XH O5.o;have Yt:Below V V w2:=Heap.Below.call Wd (Zw _) UF;have r2:Below w2 w2 w2:=YH _ _;obtain ⟨k2,k3⟩:=Zz.o _ Yt)|(go_split_ands;refine Zp Zr (.tmp 80) (.tmp 82) 49 Zr V.heap.size Ur v1 (0+T.Z5.length) ([]++T.Z5.flatMap Zv) Zr ?_ _ 1 (Qk p n la false) Zr ?_ Zr (LW ⟨p,n,la,false⟩) Zo Zo ?_ ?_;(exact Zy Ui.o Wd);(repeat (first|((with_reducible refine Tq _ _ 1 (Qk p n la false) Zd _ ?_);rfl)|with_reducible refine Row.drew ?_|with_reducible refine Row.below ?_ UF));(exact Below.size Wd);intro v2 w3 PU KS;have Wp:Below V V w3:=Below.grown Wd KS.o (Below.size Wd) (YL Ui.o);obtain ⟨k6,k7⟩:=Zz.o _ Wp;obtain ⟨va,vc,hv⟩:=WI PU.o;subst hv))
  exact Yx7
 exact AllReadyH.nil):p:=h
theorem nR {p:Prop} (h:p:=by
 go_enter Tryz.func131,Tryz.ntmps131
 go_wp2_with (first|(go_at_call 160;refine CW.o.mono ?_;rintro e w2 ⟨rfl,rfl⟩)|(go_at_call 83;refine CS.o.mono ?_;rintro e w3 ⟨rfl,VH⟩;have VT:=Zh VH;clear VH))
 go_ret2
 exact ⟨⟨0,by rw [zG.o];rfl⟩,ZC VT.o (Zw _) _⟩):p:=h
theorem cF {p:Prop} (h:p:=by
 have x1:w1.cell? ⟨w,1,none⟩=some (.int .i64 p):=Wb 1
 have x2:w1.cell? ⟨w,2,none⟩=some (.int .i64 n):=Wb 2
 have x3:w1.cell? ⟨w,3,none⟩=some (.int .i64 la):=Wb 3
 have x4:w1.cell? ⟨w,4,none⟩=some (.string (str nm)):=Wb 4
 have x5:w1.cell? ⟨w,5,none⟩=some (.slice sa ss.length sc):=Wb 5
 have x6:w1.cell? ⟨w,6,none⟩=some (.slice ba bl bc):=Wb 6
 clear YZ Wb
 go_wp2_with (go_at_call 102;(with_reducible refine (C.o w1 (HR.o.below VQ.o)).mono ?_);rintro e w2 ⟨⟨tv,rfl,S8⟩,U3,Wx⟩)
 go_ret2
 exact Vo HF S8 U3 ((Fr.Z8 _ VQ.o).trans (Wx.mono Zo (fun _ _ h=>h)))):p:=h
theorem Yx31 {p:Prop} (h:p:=by
 obtain ⟨r,rfl⟩:=QT h0
 rw [Wv]
 have hc:=lH r
 by_cases b1:r<33
 ·have HF:Hid (Ix r=false):=by show _=_;rw [K4,ne_eq,hc];omega
  clear hc
  exact jN
 by_cases b2:r<127
 ·have HF:Hid (Ix r=true):=by show _=_;rw [hc];omega
  clear hc
  have t2:((r:Int) != 65533)=true:=by rw [R6];omega
  exact jN
 by_cases b3:r≤159
 ·have HF:Hid (Ix r=false):=by show _=_;rw [K4,ne_eq,hc];omega
  clear hc
  exact jN
 by_cases b4:r=65533
 ·have HF:Hid (Ix 65533=false):=by show _=_;decide
  clear hc
  subst b4
  exact jN
 ·have HF:Hid (Ix r=true):=by show _=_;rw [hc];omega
  clear hc
  have t2:((r:Int) != 65533)=true:=by rw [R6];omega
  clear b4
  go_enter Tryz.func150,Tryz.ntmps150
  go_wp2
  go_ret
  exact ⟨Xy (by rw [HF.o];simp;omega),rfl⟩):p:=h
theorem Yx33 {p:Prop} (h:p:=by
 go_ret
 have h1:Row (w.alloc (.cells (YO [10,11]).toArray 66)) 66 (.slice (some ⟨w,0,none⟩) 2 2) 2 (YO [10,11]):=VF w _ 2 (YO [10,11]) Zd
 have h2:=VF (w.alloc (.cells (YO [10,11]).toArray 66)) 5 17 (RX bt) Zd
 have h3:=VF ((w.alloc (.cells (YO [10,11]).toArray 66)).alloc (.cells (RX bt).toArray 5)) 32 5 ((Gu w.heap.size).flatMap fun y=>Xm y.x) Zd
 have e1:(w.alloc (.cells (YO [10,11]).toArray 66)).heap.size=w.heap.size+1:=by show (w.heap.push _).size=_;rw [O6]
 have e2:((w.alloc (.cells (YO [10,11]).toArray 66)).alloc (.cells (RX bt).toArray 5)).heap.size=w.heap.size+2:=by show ((w.heap.push _).push _).size=_;rw [O6,O6]
 rw [e1] at h2
 rw [e2] at h3
 refine ⟨rfl,⟨h3,?_⟩,ZC (ZC (Z' w _) (Zw _) _) (Zw _) _⟩
 intro x hx
 simp only [Gu,Mg,List.mem_nil_iff,or_false] at hx
 rcases hx with rfl|rfl|rfl|rfl|rfl
 ·exact ⟨Row.nil _ _,Row.nil _ _,by decide⟩
 ·exact ⟨Row.nil _ _,Row.nil _ _,by decide⟩
 ·exact ⟨(h1.below (Z' _ _)).below (Z' _ _),Row.nil _ _,by show (dv 2).name.length<_;decide⟩
 ·exact ⟨Row.nil _ _,Row.nil _ _,by decide⟩
 ·exact ⟨Row.nil _ _,h2.below (Z' _ _),by show (dv 4).name.length<_;decide⟩):p:=h
theorem Yx34 {p:Prop} (h:p:=by
 have hb:(er != 0)=true:=by rw [R6];exact R9
 have Y0:(er == 0)=false:=by rw [WQ];exact R9
 rw [ZQ R9] at HX
 go_wp2_with (first|(go_at_call 78;refine (QK 3 er _).mono ?_;rintro e w5 ⟨⟨cs,rfl,PV⟩,Lj⟩;have P7:=Zh (X6.o.trans (Lj.mono X6.o.size));have JR:=(P7.o.block (w.heap.size+1) (ZV HZ.o)).trans HZ.o;have hi:=QM PV;have hold:=QL PV;have Pr:=PV.one;have J7:=Zh PV;clear PV Lj)|(with_reducible refine ZU 100 (.tmp 4) (.tmp 26) rfl ?_;refine ZW rfl 100 (.tmp 4) (.tmp 26) rfl rfl (w.heap.size+1) cs.toArray rfl rfl 100 Xv JR hi hold Pr ?_))
 refine VJ (v:= .agg cs.toArray) ?_ rfl ?_
 ·exact cx
 exact UL.o _ cs _ (Z3 (R4.o.trans (P7.o.mono R4.o.size)) (IP _) _) (J7.o.setRow JR _) HX.o):p:=h
theorem jT {p:Prop} (h:p:=by
 go_enter Tryz.func96,Tryz.ntmps96
 go_wp2_with (go_at_call 48;(with_reducible refine (CA.o _ (Z' _ _)).mono ?_);rintro e w1 ⟨rfl,YZ⟩;obtain ⟨Mp,KN⟩:=S3 YZ;have QV:w.heap.size<w1.heap.size:=Pb Zi YZ.size)
 go_ret
 exact ⟨YW HF.o.symm,(Z' _ _).trans (YZ.mono Zi)⟩):p:=h
theorem jU {p:Prop} (h:p:=by
 go_enter Tryz.func179,Tryz.ntmps179
 go_wp2_with (first|(go_at_call 191;refine HCK.o.mono ?_;rintro e w' ⟨rfl,rfl⟩)|(go_at_call 155;refine qU.o.mono ?_;rintro e w' ⟨rfl,rfl⟩))
 go_quiet ((go_at_call 192;exact Calls.quiet_of_same ((CS.o _).mono fun e w' h=>⟨h.1,h.2.symm⟩)))
 go_wp2
 go_ret2
 exact ⟨rfl,Pd Wn _⟩):p:=h
theorem Yx38 {p:Prop} (h:p:=by
 rw [ZQ (by simp [hj])] at HX
 rw [Bool.not_eq_true] at hj
 rw [hj]
 go_wp2_with (first|(go_at_call 78;refine (QK 4 0 _).mono ?_;rintro e w5 ⟨⟨cs,rfl,PV⟩,Lj⟩;have P7:=Zh (VT.o.trans (Lj.mono VT.o.size));have JR:=(P7.o.block (w.heap.size+1) (ZV HZ.o)).trans HZ.o;have hi:=QM PV;have hold:=QL PV;have Pr:=PV.one;have J7:=Zh PV;clear PV Lj)|(with_reducible refine ZU 100 (.tmp 4) (.tmp 35) rfl ?_;refine ZW rfl 100 (.tmp 4) (.tmp 35) rfl rfl (w.heap.size+1) cs.toArray rfl rfl 100 Xv JR hi hold Pr ?_))
 refine VJ (v:= .agg cs.toArray) ?_ rfl ?_
 ·exact cx
 exact UL.o _ cs _ (Z3 (R4.o.trans (P7.o.mono R4.o.size)) (IP _) _) (J7.o.setRow JR _) HX.o):p:=h
theorem Yx40 {p:Prop} (h:p:=by
 clear HS kQ
 go_wp2_with (first|(go_at_call 132;refine CG.o.mono ?_;rintro e w2 ⟨⟨tv,rfl,S8⟩,Re,Sm⟩;obtain ⟨ta,tc,pO,-⟩:=id S8;subst pO;have F4:=Zh S8;have Ma:=Zh Re;have Ud:=Zh Sm;have Im:=Sm.size;clear Re Sm S8)|(at_builtin;refine YV rfl (.tmp 60) (.tmp 61) 98 rfl w.heap.size XP _ G1.length (G1.flatMap Z9) rfl ?b1 _ Y1.length (Y1.flatMap Z9) rfl ?b2 ?b3 ?b4 ?b5 ?b6 ?b7 (fun v' w3 HO HG=>?_)))
 case b1=>exact WJ Yl.o Ud.o (fun k hk=>by omega)
 case b2=>exact F4.o
 case b3=>exact VZ _
 case b4=>exact Yc _
 case b5=>omega
 case b6=>omega
 case b7=>omega
 go_roundw
 case rel=>
  refine ⟨j+1,Zo,Zn,by rw [HT.o,QO.o],?_,?_,?_⟩
  ·exact (Uh.o.trans (Ud.o.mono T5 (fun _ _ h=>h))).grown HG.o Zo (YL Yl.o)
  ·rw [HT.o,QO.o]
   exact ZT.grown Ma.o (WJ Yl.o Ud.o (fun k hk=>by omega)) HG.o hb Zd
  ·rw [HT.o,QO.o]
   dsimp only
   rw [UM,O_]
   exact HO.o
 case measure=>simp [intOf];omega):p:=h
theorem nS {p:Prop} (h:p:=by
 (try dsimp only)
 first|exact ⟨ju.o.pk.Rp 0,ju.o.pk.Rp 1,ju.o.pk.Zj⟩|exact ⟨PU.o.pk.Rp 0,PU.o.pk.Rp 1,PU.o.pk.Zj⟩|exact ⟨Ui.o.pk.Rp 0,Ui.o.pk.Rp 1,Ui.o.pk.Zj⟩|exact ⟨k0,k1,J6.o.pk.Zj⟩|exact vW.o _ (YH _ _).drew):p:=h
theorem jV {p:Prop} (h:p:=by
 go_wp2_with fail
 go_quiet (fail)
 have X6:=Zh (below_drewN HB.o nq)
 have HZ2:Hid ((wr.drewN nq).heap[w.heap.size]?=some (.cells (Qe p s b f) 59 (0,0))):=HZ.o
 go_wp2_with fail
 go_roundw
 case rel=>exact ⟨j+1,Zo,Zn,X6.o,HZ2.o,qY.o⟩
 case measure=>simp [intOf];omega):p:=h
theorem sx {p:Prop} (h:p:=by
 go_wp2_with (go_at_call 92;refine CT.o.mono ?_;rintro e w' ⟨rfl,rfl⟩)
 go_ret
 exact ⟨rfl,rfl⟩):p:=h
theorem Yx44 {p:Prop} (h:p:=by
 go_loop [8,23] (fun n i=>∃ k:Nat,k≤s.length∧i = .int .i64 k∧n = .int .u64 (be (s.take k):Nat)) (fun _ i=>s.length-(intOf i).toNat)
 case atStart=>exact ⟨0,Tw _,rfl,rfl⟩
 case round=>
  obtain ⟨k,hk,rfl,rfl⟩:=hrel
  by_cases hkq:k<s.length
  ·obtain ⟨g,off,cap,e1,_,_,hc⟩:=Cg (l:=s) Vi.o Zo
   cases e1
   have d:=hc k Zo
   have HB:Hid (be (s.take (k+1))=be (s.take k)*256+s[k].toNat):=by
    show _=_
    rw [List.take_succ_eq_append_getElem Zo,ki]
   have Po:be (s.take k)<72057594037927936:=dn nL
   have hor:=lJ (be (s.take k)) s[k] Po
   have kM:=s[k].toNat_lt
   clear hc
   generalize s[k]=x at *
   generalize be (s.take k)=m at *
   go_wp2
   go_round
   case rel=>exact ⟨k+1,Zo,Zn,by rw [HB.o];go_num⟩
   case measure=>simp [intOf];omega
  ·obtain rfl:k=s.length:=by omega
   go_wp2
   go_ret2
   exact ⟨rfl,rfl⟩):p:=h
theorem Yx45 {p:Prop} (h:p:=by
 have hc:=HC.o k VR
 have HBAD:Hid (¬(2≤ss.getD k 0∧ss.getD k 0<3221225472)→Ds=5):=by
  intro h
  rw [mZ.o,ZQ]
  rw [List.any_eq_true]
  refine ⟨ss.getD k 0,?_,by generalize ss.getD k 0=z at h ⊢;simp;omega⟩
  rw [Rw,U7 VR];exact Ot VR
 generalize hy:ss.getD k 0=y at *
 have HY:=Zh hy
 clear hy
 by_cases g1:y<2
 ·have HF:=Zh (HBAD.o Zo)
  go_wp2
  go_ret
  exact ⟨YW HF.o.symm,Z' _ _⟩
 by_cases g2:3221225472≤y
 ·have HF:=Zh (HBAD.o Zo)
  go_wp2
  go_ret
  exact ⟨YW HF.o.symm,Z' _ _⟩
 ·go_wp2
  go_round
  case rel=>exact ⟨k+1,Zo,Zn,fun j hj=>by by_cases JN:j<k;exact KP.o j JN;rw [show j=k by omega,HY.o];omega⟩
  case measure=>simp [intOf];omega):p:=h
theorem sy {p:Prop} (h:p:=by
 (try dsimp only)
 first|exact Zz.o _ (KU.o)|exact Zz.o _ lZ.o|exact Zz.o _ ny.o|exact Zz.o _ ck.o|exact Zz.o _ HX7.o|exact Zz.o _ HX8.o):p:=h
theorem Yx47 {p:Prop} (h:p:=by
 have HC:Hid (Ob r=if 65≤r∧r≤90 then r-65+97 else r):=rfl
 by_cases b1:65≤r
 ·by_cases b2:r≤90
  ·have HF:Hid (Ob r=r-65+97):=by show _=_;rw [HC.o,ZQ ⟨b1,b2⟩]
   go_enter Tryz.func178,Tryz.ntmps178
   go_wp2
   go_ret
   exact ⟨YW HF.o.symm,rfl⟩
  ·have HF:Hid (Ob r=r):=by show _=_;rw [HC.o,Z4 Zo]
   go_enter Tryz.func178,Tryz.ntmps178
   go_wp2
   go_ret
   exact ⟨YW HF.o.symm,rfl⟩
 ·have HF:Hid (Ob r=r):=by show _=_;rw [HC.o,Z4 Zo]
  go_enter Tryz.func178,Tryz.ntmps178
  go_wp2
  go_ret
  exact ⟨YW HF.o.symm,rfl⟩):p:=h
theorem Yx48 {p:Prop} (h:p:=by
 have x1:w1.cell? ⟨w,1,none⟩=some (.int .i64 p):=Wb 1
 have x2:w1.cell? ⟨w,2,none⟩=some (.int .i64 n):=Wb 2
 have x3:w1.cell? ⟨w,3,none⟩=some (.int .i64 la):=Wb 3
 have x4:w1.cell? ⟨w,4,none⟩=some (.string (str nm)):=Wb 4
 have x5:w1.cell? ⟨w,5,none⟩=some (.slice sa ss.length sc):=Wb 5
 have x6:w1.cell? ⟨w,6,none⟩=some (.slice ba bl bc):=Wb 6
 clear YZ Wb
 go_wp2_with (go_at_call 101;(with_reducible refine (C.o w1 (HR.o.below VQ.o)).mono ?_);rintro e w2 ⟨⟨tv,rfl,S8⟩,U3,Wx⟩)
 go_ret2
 exact Vo HF S8 U3 ((Fr.Z8 _ VQ.o).trans (Wx.mono Zo (fun _ _ h=>h)))):p:=h
theorem Yx49 {p:Prop} (h:p:=by
 have h:=Z7 (w.alloc (.cells (Qa kd peer src ly nm sa sl sc ba bl bc) 32)) (.cells Xv 100)
 have e:(w.alloc (.cells (Qa kd peer src ly nm sa sl sc ba bl bc) 32)).heap.size=w.heap.size+1:=by show (w.heap.push _).size=_;rw [O6]
 rw [e] at h
 exact h):p:=h
theorem Yx50 {p:Prop} (h:p:=by
 have k2:=cell_of HG.o.Za 6
 simp only [SK,S6,SJ] at k2
 have f2:=ZO HG.o.Za 6
 refine Z_.Y_ hK _ _ ?_ (fun _=>?_)
 ·(try dsimp only)
  first|exact k2|exact k1|exact k0
 clear hK K
 try simp only [Z_.pt]
 refine YP 39 (h:=?_)
 refine YR 40 (h:=fun K hK=>?_)
 go_simp
 refine Z_.Ye hK _ _ ZB ?_
 clear hK K
 try simp only [Z_.pt]
 refine Z_.Yr ZB ?_ _
 refine QY ?_
 go_wp2_with fail
 go_roundw
 case rel=>
  refine ⟨i+1,pos+24,na,nq,Zo,by have:=N0.o;omega,Zn,Zn,?_,?_⟩
  ·exact HG.o.set 6 (.slice na (i+1) nq)
  ·rw [Mb.o];exact Kv HO.o HG.o.Za Zd _ _
 case measure=>simp [intOf];omega):p:=h
theorem nT {p:Prop} (h:p:=by
 have II:=Zh (L_.o.below (below_drewN (YH _ _) nq))
 go_wp2_with fail
 go_meet
 rw [Ic.o]
 exact II.o):p:=h
theorem nU {p:Prop} (h:p:=by
 exact results_cell_row Zr _ _ (w.heap.size+1) 100 cs.toArray (0,0) _ Zr (setRow_heap _ _ _ _ _ _ JR) Tryz.underlying100 rfl hi):p:=h
theorem cG {p:Prop} (h:p:=by
 exact UT (p:=2) (u:=3) (v:=4) Zr _ _ w.heap.size 173 YY (0,0) _ Zr (setRow_heap _ _ _ _ _ _ Ub) Tryz.underlying173 rfl ZB):p:=h
theorem cH {p:Prop} (h:p:=by
 exact UT (p:=2) (u:=3) (v:=4) Zr _ _ w.heap.size 173 YY (0,0) _ Zr (setRow_heap _ _ _ _ _ _ Sr) Tryz.underlying173 rfl ZB):p:=h
theorem cI {p:Prop} (h:p:=by
 clear hK K
 try simp only [Z_.pt]
 refine wpAnyH_done ZB ?_ _
 refine QY ?_
 go_wp2_with fail
 go_roundw
 case rel=>exact ⟨j+1,.slice na (G1++Y1).length nc,Zo,Zn,by rw [J7.o,Mb.o];have h8:=bM.o;simp only [UM] at h8 ⊢;exact h8⟩
 case measure=>simp [intOf];omega):p:=h
theorem cJ {p:Prop} (h:p:=by
 clear hK K
 try simp only [Z_.pt]
 refine wpAnyH_done ZB ?_ _
 refine QY ?_
 go_wp2_with fail
 go_roundw
 case rel=>exact ⟨j+1,_,Zo,Zn,HP6.o,by rw [ru,N7,List.map_cons,List.map_nil,uq,DZ.o,←HXS.o];exact I2.o⟩
 case measure=>simp [intOf];omega):p:=h
theorem Yx59 {p:Prop} (h:p:=by
 have hw:Region.wanted o (yielded ops a.tmps)=true:=by simp [Region.wanted,Mq]
 rw [ZQ hw]
 obtain ⟨z,UH,mr⟩:=E.info
 obtain ⟨i,hi,hz,Sq,yS⟩:=info_parts UH
 refine Go.wp_buildSlice t e 1 #[(0,x)] ho #[v] i z E.ht hi hz (by rw [Sq];omega) (by rw [Sq];omega) ?_ h
 have hf:=Go.Great.fill_whole (s:=i.size) Zo [v] ((Array.range (1*i.size)).map (z.cells[· % z.cells.size]!)) (fun u hu=>by rw [Kc] at hu;subst hu;rw [hv];show 1=_;omega) Zi
 have e1:([v].flatMap fun v=>v.cells.toList).toArray=#[v]:=by simp [hv]
 rw [e1] at hf
 simpa [hx] using hf):p:=h
theorem nV {p:Prop} (h:p:=by
 have h2:=OT Zo aV IW (HV.o w' h)
 rwa [show (b.drop 4).take (Z-4)=(b.drop 4).take (4*Lg) by rw [show Z-4=4*Lg by rw [HZ.o];omega]] at h2):p:=h
theorem jW {p:Prop} (h:p:=by
 rcases decodeN_shape n b0 b1 b2 b3 with ⟨c,e⟩|⟨c1,c2,c3,cv,e⟩|⟨c1,c2,c3,c4,cv,cs,e⟩|⟨c1,c2,c3,c4,c5,cv,cw,e⟩|e
 ·omega
 all_goals (rw [e];dsimp only;rw [hc _ Zo])):p:=h
theorem nW {p:Prop} (h:p:=by
 clear HW
 go_enter Tryz.func167,Tryz.ntmps167
 go_wp2
 go_ret
 exact ⟨Xy HF.o.symm,rfl⟩):p:=h
theorem nX {p:Prop} (h:p:=by
 clear HF
 go_enter Tryz.func116,Tryz.ntmps116
 go_wp2
 go_ret
 exact ⟨by rw [HX.o];rfl,rfl⟩):p:=h
theorem Yx64 {p:Prop} (h:p:=by
 clear Vs
 go_enter Tryz.func108,Tryz.ntmps108
 go_wp2_with (go_at_call 130;refine CO.o.mono ?_;rintro e w2 ⟨⟨n,l,rfl⟩,Y0⟩;have R4:=Zh (VQ.o.trans (Y0.mono VQ.o.size));have Sr:=(Y0.block w.heap.size (ZV hz)).trans hz;have c0:=cell_of Sr 0;simp only [SK,S6] at c0;clear Y0 Sr)
 go_ret2
 exact ⟨⟨.slice none 0 0,by rw [HX.o];rfl,by rw [HX.o];exact Row.nil _ _⟩,by rw [HX.o];exact HR.o.below R4.o,Fr.Z8 _ R4.o⟩):p:=h
theorem cK {p:Prop} (h:p:=by
 go_enter Tryz.func164,Tryz.ntmps164
 go_wp2
 go_quiet (fail)
 go_wp2
 go_ret
 exact ⟨YW HF.o.symm,by repeat (first|exact YH _ _|refine below_drewN ?_ _|refine Below.drew ?_|refine Below.alloc ?_ Zi _)⟩):p:=h
theorem cL {p:Prop} (h:p:=by
 go_enter Tryz.func126,Tryz.ntmps126
 go_wp2
 exact VJ (v:= .tuple (Qo (Qc 0 false false 0) 1)) (by simp [results,Tryz.results126,go_sem]) rfl ⟨rfl,UF⟩):p:=h
theorem Yx71 {p:Prop} (h:p:=by
 have C:=Zh (K1 v L w hT h hL)
 clear hT h hL
 go_enter Tryz.func24,Tryz.ntmps24
 go_wp2_with (go_at_call 53;refine C.o.mono ?_;rintro e w2 ⟨k,g,b,ov,av,mv,lv,M,R,ep,rfl,-,T4⟩;have BW:=Zh T4;have k1:w2.cell? ⟨k,1,none⟩=some av:=(Zc T4.book.Za 1 rfl);clear T4)
 go_ret
 refine ⟨⟨av,rfl,?_⟩,BW.o.Zj⟩
 have h:=Row.Z6 BW.o.book.XE
 rwa [Xa] at h):p:=h
theorem jX {p:Prop} (h:p:=by
 refine Z_.Ye hK _ _ ZB ?_
 clear hK K
 try simp only [Z_.pt]
 refine Z_.Yr ZB ?_ _
 refine QY ?_
 go_wp2_with fail
 go_meet
 rw [Ic.o]
 exact fT.o.row _):p:=h
theorem jY {p:Prop} (h:p:=by
 go_enter Tryz.func96,Tryz.ntmps96
 go_wp2
 go_ret
 exact ⟨YW HF.o.symm,Z' _ _⟩):p:=h
theorem cM {p:Prop} (h:p:=by
 obtain ⟨a,c,rfl,-⟩:=id hv
 clear hv h3
 generalize XJ b=X at *
 go_enter Tryz.func105,Tryz.ntmps105
 go_wp2_with fail
 go_ret2
 exact ⟨⟨.nilIface,by rw [HX.o];rfl,by rw [HX.o];rfl⟩,YH _ _⟩):p:=h
theorem Yx75 {p:Prop} (h:p:=by
 rintro e w1 ⟨rfl,rfl⟩
 go_wp2_with fail
 refine VJ (v:= .tuple (Qy (Qk 0 0 0 false) false)) (by simp [results,Tryz.results83,go_sem]) rfl ⟨rfl,Z' _ _⟩):p:=h
theorem Yx76 {p:Prop} (h:p:=by
 have HO:=Zh (HO.o.oM zo.o F_.o)
 obtain ⟨za,zc,hx⟩:∃ a c,v30 = .slice a (qs.length+1) c:=by obtain ⟨a,c,h⟩:=Row.form (Row.Z6 F_.o);exact ⟨a,c,by rw [h,UM];rfl⟩
 subst hx
 obtain ⟨c5,c6,c7,-,-,-,-⟩:=HO.o.facts
 have f5:=ZO HO.o.view 5
 have f6:=ZO HO.o.view 6
 have f7:=ZO HO.o.view 7
 refine Z_.Y_ hK _ _ ?_ (fun hHeld23=>?_)
 ·(try dsimp only)
  exact HO.o.facts
 exact Yx8):p:=h
theorem Yx77 {p:Prop} (h:p:=by
 have HO:=Zh (HO.o.oM zo.o F_.o)
 obtain ⟨za,zc,hx⟩:∃ a c,v30 = .slice a (qs.length+1) c:=by obtain ⟨a,c,h⟩:=Row.form (Row.Z6 F_.o);exact ⟨a,c,by rw [h,UM];rfl⟩
 subst hx
 obtain ⟨c5,c6,c7,-,-,-,-⟩:=HO.o.facts
 have f5:=ZO HO.o.view 5
 have f6:=ZO HO.o.view 6
 have f7:=ZO HO.o.view 7
 refine Z_.Y_ hK _ _ ?_ (fun uU=>?_)
 ·(try dsimp only)
  exact HO.o.facts
 exact Yx8):p:=h
theorem Yx78 {p:Prop} (h:p:=by
 have HO:=Zh (HO.o.oM zo.o F_.o)
 obtain ⟨za,zc,hx⟩:∃ a c,v30 = .slice a (qs.length+1) c:=by obtain ⟨a,c,h⟩:=Row.form (Row.Z6 F_.o);exact ⟨a,c,by rw [h,UM];rfl⟩
 subst hx
 obtain ⟨c5,c6,c7,-,-,-,-⟩:=HO.o.facts
 have f5:=ZO HO.o.view 5
 have f6:=ZO HO.o.view 6
 have f7:=ZO HO.o.view 7
 refine Z_.Y_ hK _ _ ?_ (fun oP=>?_)
 ·(try dsimp only)
  exact HO.o.facts
 exact Yx8):p:=h
theorem jZ {p:Prop} (h:p:=by
 go_wp2
 go_roundw
 case rel=>exact ⟨k+1,Zo,Zn,W9.alloc W9.size _,HF.o⟩
 case measure=>simp [intOf];omega):p:=h
theorem Yx80 {p:Prop} (h:p:=by
 have yU:=XK f k hk l
 obtain ⟨g,off,cap,h1,h2,h3,h4,h5⟩:=h.open (by rw [yU];exact Nat.mul_pos hl iE)
 refine ⟨g,off,cap,h1,h2,h3,h4,fun i x hx j hj=>?_⟩
 have hi:i<l.length:=(List.getElem?_eq_some_iff.1 hx).1
 have Po:i*k+j<l.length*k:=by
  have h6:(i+1)*k≤l.length*k:=Nat.mul_le_mul_right _ hi
  rw [Nat.succ_mul] at h6
  omega
 rw [Nat.add_assoc,h5 _ (by rw [yU];exact Po)]
 exact M_ f k hk l i j x hx hj):p:=h
theorem j0 {p:Prop} (h:p:=by
 clear HF
 go_enter Tryz.func61,Tryz.ntmps61
 go_wp2
 go_ret
 exact ⟨LH HX.o.symm,rfl⟩):p:=h
theorem Yx83 {p:Prop} (h:p:=by
 have Vs:Hid (X=(([],R),if UG R peer md then 0 else 1)):=by show _=_;rw [Gd.o];simp
 have CO:=Zh (rV b R peer md _ KT.o td Da)
 clear Gd hI hS mi hR td Da Bz
 generalize UG R peer md=O at *
 cases O with
 | false=>
  have HX:Hid (X=(([],R),1)):=by show _=_;rw [Vs.o];rfl
  exact Yx26
 | true=>
  have HX:Hid (X=(([],R),0)):=by show _=_;rw [Vs.o];rfl
  exact Yx26):p:=h
theorem Yx84 {p:Prop} (h:p:=by
 rw [hn] at CN
 clear hn h hR
 go_enter Tryz.func81,Tryz.ntmps81
 go_wp2_with fail
 refine (CN.o _).mono ?_
 rintro e w1 ⟨rfl,rfl⟩
 go_wp2_with fail
 refine VJ (v:= .tuple (Qy (Qp 0 0 none 0 0 false) false)) (by simp [results,Tryz.results81,go_sem]) rfl ⟨rfl,Z' _ _⟩):p:=h
theorem Yx85 {p:Prop} (h:p:=by
 obtain ⟨la,xA,rfl,hx⟩:=Z0
 clear hx
 have jo:Hid (L=[]):=Cc h0
 go_wp2_with fail
 go_loopw [7,22] (fun v i w'=>v = .slice none 0 0∧i = .int .i64 0∧w'=w1) (fun _ _ _=>0)
 case atStart=>exact ⟨rfl,rfl,rfl⟩
 case round=>
  obtain ⟨rfl,rfl,rfl⟩:=hrel
  go_wp2
  go_ret
  rw [HM0.o,jo.o]
  exact ⟨⟨_,rfl,Row.nil _ _⟩,BV.o,J5.o⟩):p:=h
theorem j3 {p:Prop} (h:p:=by
 clear HW
 go_enter Tryz.func176,Tryz.ntmps176
 go_wp2
 go_ret
 exact ⟨Xy HF.o.symm,rfl⟩):p:=h
theorem Yx89 {p:Prop} (h:p:=by
 clear rh
 go_enter Tryz.func109,Tryz.ntmps109
 go_wp2_with (first|(go_at_call 111;refine (C1.o _).mono ?_;rintro e w1 ⟨rfl,rfl⟩)|(go_at_call 80;refine (CT.o _ (Z' _ _)).mono ?_;rintro e w1 ⟨rfl,rfl⟩))
 go_ret
 exact ⟨YW HF.o.symm,Z' _ _⟩):p:=h
theorem Yx90 {p:Prop} (h:p:=by
 refine VJ (v:= .agg (Qf ca cc cp cm)) ?_ rfl ?_
 ·exact results_cell_row Zr _ _ (w.heap.size+1) 202 (Qf ca cc cp cm) (0,0) _ Zr (setRow_heap _ _ _ _ _ _ zA) Tryz.underlying202 rfl ZB
 exact ⟨by rw [Vs.o],Z3 KL.o.Zj (IP _) _⟩):p:=h
theorem Yx92 {p:Prop} (h:p:=by
 obtain ⟨hl,h⟩:=h
 refine ⟨by rw [List.length_set];exact hl,?_⟩
 rcases h with ⟨_,h⟩|⟨g',cap',cur,hv,hg,hh,h1,h2,h3,h4⟩
 ·omega
 ·cases hv
  refine Wi ⟨g,cap,cur.setIfInBounds i u,rfl,hg,by simp [World.setCell,Array.getElem?_modify,hh],h1,h2,by rw [Array.size_setIfInBounds];exact h3,?_⟩
  rw [Array.toList_setIfInBounds,List.take_set,h4]):p:=h
theorem Yx93 {p:Prop} (h:p:=by
 rw [List.set_append_right _ _ Uq]
 rw [List.take_add_one,U7 h]
 simp only [Tx,Tg,Option.toList,N7,List.map_cons,List.map_nil,gV]
 congr 1
 rw [show k-min k l.length=0 by omega,List.drop_eq_getElem_cons h,List.set_cons_zero,Rw,U7 h]
 rfl):p:=h
theorem Yx94 {p:Prop} (h:p:=by
 obtain ⟨rfl,rfl⟩:=h0 rfl
 have:news=[]:=Cc (by rw [hl,Nat.zero_mul])
 subst this
 refine wpList_append_own_none Mq s x t ho base e i size E.ht hi v n xs hs YJ hx (h v w ?_ ?_)
 ·show World.ownsRow _ _ _ _ _ _ _;rw [wC];exact YJ
 ·exact ⟨rfl,rfl,rfl,Zw _,fun _ _ _=>rfl⟩):p:=h
theorem Yx96 {p:Prop} (h:p:=by
 exact UT (p:=2) (u:=3) (v:=4) Zr _ _ w.heap.size 173 YY (0,0) _ Zr (setRow_heap _ _ _ _ _ _ QV) Tryz.underlying173 rfl ZB):p:=h
theorem Yx97 {p:Prop} (h:p:=by
 rw [rD]
 show _∈DataW.weights Tryz.prog 32 (.agg (xs.map (·.1)))
 unfold DataW.weights
 rw [Tryz.underlying32]
 dsimp only
 refine DataW.weights_mem_each (j:=4) (t:=9) (d:= .lit (.string s4.data.toList)) rfl ?_ _ (by simp [DataW.weights])
 rw [List.getElem?_map,e4,gy4]
 rfl):p:=h
theorem cN {p:Prop} (h:p:=by
 have Vs:Hid (X=((XX,0),1)):=by show _=_;rw [KU.o,ZQ Zo]
 have dw:((Lg:Int) != (R:Int))=true:=by rw [R6];omega
 exact cC):p:=h
theorem cO {p:Prop} (h:p:=by
 have Vs:Hid (X=((XX,0),1)):=by show _=_;rw [KU.o,ZQ Zo]
 have dh:decide (15<(m:Int))=true:=We Zo
 exact cC):p:=h
theorem fY {p:Prop} (h:p:=by
 go_enter Tryz.func171,Tryz.ntmps171
 go_wp2_with (first|(go_at_call 155;refine CG.o.mono ?_;rintro e w' ⟨rfl,rfl⟩)|(go_at_call 182;refine HCZ.o.mono ?_;rintro e w' ⟨rfl,rfl⟩))
 go_ret2
 exact ⟨rfl,rfl⟩):p:=h
theorem fZ {p:Prop} (h:p:=by
 rw [bn] at kZ
 clear ht bn
 go_wp2_with (go_at_call 156;refine (CI.o _ (Z' _ _)).mono ?_;rintro e w1 ⟨rfl,rfl⟩)
 go_roundw
 case rel=>exact ⟨k+1,Zo,Zn,W9.trans ((Z' _ _).mono W9.size),HF.o⟩
 case measure=>simp [intOf];omega):p:=h
theorem f_ {p:Prop} (h:p:=by
 obtain ⟨rfl,rfl⟩:=h0 rfl
 have:news=[]:=Cc (by rw [hl,Nat.zero_mul])
 subst this
 refine ⟨v,w,run_append_owned_none (P:=P) (w:=w) base t ty e i size E.ht hi v n xs YJ,?_,⟨rfl,rfl,rfl,Zw _,fun _ _ _=>rfl⟩⟩
 rw [wC];exact YJ):p:=h
theorem nN {p:Prop} (h:p:=by
 clear HX
 go_enter Tryz.func143,Tryz.ntmps143
 go_wp2_with fail
 go_ret
 exact ⟨by rw [Vs.o];rfl,rfl⟩):p:=h
theorem gf {p:Prop} (h:p:=by
 clear hR
 go_enter Tryz.func110,Tryz.ntmps110
 go_wp2_with (go_at_call 140;refine (C.o _ wz).mono ?_;rintro e w1 ⟨⟨tv,rfl,S8⟩,Xt,Wx⟩)
 go_ret
 exact Tv HF S8 Xt wz Wx):p:=h
theorem gg {p:Prop} (h:p:=by
 by_cases hx:x0=n
 ·have HF:=Zh (HH.o (by rw [hx];simp))
  subst hx
  go_wp2
  go_ret
  exact ⟨YW HF.o.symm,W9.alloc W9.size _⟩
 ·have uY:(x0 == n)=false:=by rw [WQ];exact hx
  have HF:=Zh (HM.o uY)
  clear hx
  exact jZ):p:=h
theorem Yx108 {p:Prop} (h:p:=by
 have hl:s.data.toList.length=s.size:=(Lib.size_eq s).symm
 have h1:=(K7 s.data.toList k).1 Zo
 refine ⟨h1,?_,oz _ _ Zo,?_⟩
 ·rw [Gy _ _ Zo,decodeL_drop]
 ·rw [U7 h1,rn_at _ _ h1,decodeL_drop]):p:=h
theorem Yx110 {p:Prop} (h:p:=by
 have e:(w.alloc (.cells (Qa kd p n q (str nm) sa ss.length sc ba bl bc) 32)).heap.size=w.heap.size+1:=by show (w.heap.push _).size=_;rw [O6]
 rw [e] at h
 exact h):p:=h
theorem gh {p:Prop} (h:p:=by
 go_roundw
 case rel=>exact ⟨k+1,Zo,Zn,W9.trans (Y0.mono W9.size),Pb T5 Y0.size,JK,fun j hj=>by by_cases JN:j<k;exact KP.o j JN;rw [show j=k by omega];exact HF.o⟩
 case measure=>simp [intOf];omega):p:=h
theorem Yx112 {p:Prop} (h:p:=by
 rw [show j / 7*7+j % 7=j by omega] at this
 rw [this,←(hY (j / 7) hi).1 (j % 7) Zo]
 rw [K5 ha]
 unfold Addr.add
 split
 ·rename_i e;rw [show a.off+j=a.off+j / 7*7 by omega]
 ·rw [show a.off+j=a.off+j / 7*7+j % 7 by omega]):p:=h
theorem gi {p:Prop} (h:p:=by
 obtain ⟨g,off,cap,h1,h2,h3,h4,h5⟩:=h.open (by rw [V5];exact hl)
 refine ⟨g,off,cap,h1,h2,h3,h4,fun j hj=>?_⟩
 rw [h5 j (by rw [V5];exact hj),Rw,U7 hj]
 simp [YO,hj]):p:=h
theorem nO {p:Prop} (h:p:=by
 have h3:=Uh.o.trans (Ud.o.mono Zo (fun _ _ h=>h))
 exact (h3.alloc Zo _).grown HG.o Uq (YL Yl.o)):p:=h
theorem Yx115 {p:Prop} (h:p:=by
 exfalso
 have WM:(XJ b).1 ≠ .XV l:=by
  unfold XJ
  split
  ·exact fun h=>by cases h
  split
  ·exact fun h=>by cases h
  split
  ·exact fun h=>by cases h
  split
  ·exact fun h=>by cases h
  ·exact fun h=>by cases h
 exact WM hv):p:=h
theorem gj {p:Prop} (h:p:=by
 show _=_
 rw [mZ.o,Z4]
 rw [List.any_eq_true]
 rintro ⟨x,hx,Ol⟩
 obtain ⟨j,hj,rfl⟩:=List.getElem_of_mem hx
 have:=KP.o j Zo
 rw [Rw,U7 hj] at this
 simp at Ol this;omega):p:=h
theorem gm {p:Prop} (h:p:=by
 intro wS TE;(try dsimp only at TE)
 refine (Xw 59 (.tmp 3) ?_ w.heap.size 0 ?_ (Qe p sr b f) _ TE.1 Tryz.underlying59 rfl ZB).trans ?_
 all_goals rfl):p:=h
theorem nP {p:Prop} (h:p:=by
 (try dsimp only)
 first|exact Zz.o _ H3.o.Za pW|exact Zz.o _ H2.o.Za Sr|exact Zz.o _ H1d.o.Za eY):p:=h
theorem nQ {p:Prop} (h:p:=by
 go_quiet (fail)
 have X6:=Zh (below_drewN HB.o nq)
 go_wp2_with fail
 go_ret
 exact ⟨by rw [HX.o];rfl,X6.o⟩):p:=h
theorem gp {p:Prop} (h:p:=by
 go_wp2
 go_roundw
 case rel=>exact ⟨k+1,Zo,Zn,Uh.o.alloc T5 _,by rw [HF.o];exact XD.o.below (Z' _ _),by rw [HF.o];exact Yl.o.alloc _⟩
 case measure=>simp [intOf];omega):p:=h
theorem gw {p:Prop} (h:p:=by
 have HF:Hid (Ds=0):=by
  show _=_
  rw [aB.o,Z4]
  rw [List.any_eq_true]
  rintro ⟨j,hj,hj2⟩
  rw [KP.o j (by simp at hj;omega)] at hj2
  cases hj2
 go_wp2
 go_ret
 exact ⟨YW HF.o.symm,W9⟩):p:=h
theorem gy {p:Prop} (h:p:=by
 rw [show get (b.take (4+4*long b)) 4 4=get b 4 4 from Ct (p:=4) (q:=4) Zo hb Zo Zo]
 exact QC (b:=b) (m:=4*long b) (p:=0) (q:=4) Zo hb Zo Zo):p:=h
theorem gz {p:Prop} (h:p:=by
 rw [show get (b.take (4+4*long b)) 8 4=get b 8 4 from Ct (p:=8) (q:=4) Zo hb Zo Zo]
 exact QC (b:=b) (m:=4*long b) (p:=4) (q:=4) Zo hb Zo Zo):p:=h
theorem gA {p:Prop} (h:p:=by
 obtain ⟨iQ,kM⟩:=hcut
 obtain ⟨va,vc,rfl,-,-⟩:=id iQ
 go_wp2
 go_ret
 rw [qZ.o]
 exact ⟨⟨_,rfl,iQ⟩,zy.o.below kM,fO.o.trans ((Fr.Z8 _ kM).mono GY (fun _ _ h=>h))⟩):p:=h
theorem gB {p:Prop} (h:p:=by
 go_enter Tryz.func83,Tryz.ntmps83
 go_wp2_with fail
 refine (CP.o _).mono ?_
 rintro e w1 ⟨rfl,rfl⟩
 go_wp2_with fail
 refine (CN.o _).mono ?_
 exact Yx75):p:=h
theorem gD {p:Prop} (h:p:=by
 have ed:k=L.length:=by omega
 have hT:L.take k=L:=by rw [ed,nZ]
 rw [hT] at Yl
 clear hT Z0
 go_wp2
 go_ret
 rw [HM0.o]
 exact ⟨⟨_,rfl,Row.Z6 Yl.o⟩,XD.o,Uh.o⟩):p:=h
theorem gF {p:Prop} (h:p:=by
 (try dsimp only)
 with_reducible first|exact RV.o _ (ZC (YH _ _).drew (Zw _) _)|exact RV.o _ (Z3 (ZC (YH _ _).drew (Zw _) _) (Zw _) _)):p:=h
theorem gG {p:Prop} (h:p:=by
 go_enter Tryz.func171,Tryz.ntmps171
 go_wp2_with (go_at_call 155;refine CG.o.mono ?_;rintro e w' ⟨rfl,rfl⟩)
 go_ret2
 exact ⟨rfl,rfl⟩):p:=h
theorem gH {p:Prop} (h:p:=by
 go_quiet ((go_at_call 115;exact Calls.quiet_of_same (CL.o _)))
 have X6:=Zh (below_drewN HB.o nq)
 clear CL
 go_wp2_with fail
 go_ret
 exact ⟨by rw [HX.o];rfl,X6.o⟩):p:=h
theorem gI {p:Prop} (h:p:=by
 clear Z0
 go_enter Tryz.func122,Tryz.ntmps122
 go_wp2
 go_ret
 exact ⟨YW HF.o.symm,Z' _ _⟩):p:=h
theorem gJ {p:Prop} (h:p:=by
 clear HE Fg
 go_upto_region 9 with fail
 go_quiet (fail)
 go_wp2
 go_roundw
 case rel=>exact ⟨q,Zo,rfl,bN.o,below_drewN SG.o _,below_drewN HBEL2.o _⟩
 case measure=>simp [intOf]):p:=h
theorem Yx136 {p:Prop} (h:p:=by
 obtain ⟨g,off,cap,h1,_,_,_,h5⟩:=xZ Yz 2 (fun _=>rfl) Zo h hl
 exact ⟨g,off,(slice_inj h1).1,fun i x hx=>⟨h5 i x hx 0 Zo,h5 i x hx 1 Zo⟩⟩):p:=h
theorem Yx137 {p:Prop} (h:p:=by
 rw [←g2]
 show W_ (W_ (opens R) ⟨1,o.peer,o.source,o.ZF,0⟩) t2=_
 unfold W_
 rw [Z4 (show ¬t2.kind=1 by omega),Z4 (show ¬t2.kind=2 by omega),ZQ rfl]
 rfl):p:=h
theorem gK {p:Prop} (h:p:=by
 go_enter Tryz.func160,Tryz.ntmps160
 go_wp2_with fail
 refine CO.o.mono ?_
 rintro e w' ⟨rfl,rfl⟩
 go_wp2_with fail
 go_ret3
 exact ⟨rfl,rfl⟩):p:=h
theorem gL {p:Prop} (h:p:=by
 exact VJ (v:= .tuple (Qo (Qn 0 0 0) 2)) (by simp [results,Tryz.results152,go_sem]) rfl ⟨rfl,Z' _ _⟩):p:=h
theorem gM {p:Prop} (h:p:=by
 exact VJ (v:= .tuple (Qo (Qn 0 0 0) 1)) (by simp [results,Tryz.results152,go_sem]) rfl ⟨rfl,Z' _ _⟩):p:=h
theorem gN {p:Prop} (h:p:=by
 have hn:(i:Int)<n:=by omega
 have h0:(0:Int)≤i:=by omega
 simp [Instr.index,asIntOf,Sem.run_bind,run_underlying h w,h0,hi,part,kL,sizeOf,typeInfo,hq,iR,hy]):p:=h
theorem gP {p:Prop} (h:p:=by
 go_enter Tryz.func141,Tryz.ntmps141
 go_wp2
 go_ret
 exact ⟨⟨_,rfl,by rw [HF.o];exact Row.nil _ _⟩,YH _ _⟩):p:=h
theorem gQ {p:Prop} (h:p:=by
 rw [Z4 e]
 have:(decide (m=n) && decide (q=p))=false:=by
  rw [K4];intro h;simp only [TU,Oh] at h;exact e h
 rw [this];rfl):p:=h
theorem gS {p:Prop} (h:p:=by
 have hT:L.take k=L:=F5 Zo
 rw [hT] at Yl
 clear hT Z0
 go_wp2
 go_ret
 rw [qX.o]
 exact ⟨⟨_,rfl,Row.Z6 Yl.o⟩,Vr.o,Uh.o⟩):p:=h
theorem gT {p:Prop} (h:p:=by
 refine ⟨h.Zj.setCell Zi _,?_,?_⟩
 ·have:=h.wG
  simp [World.setCell,Array.getElem?_modify,this]
 ·have:=h.Za
  simp [World.setCell,Array.getElem?_modify,this]):p:=h
theorem gU {p:Prop} (h:p:=by
 clear Z0
 go_enter Tryz.func134,Tryz.ntmps134
 go_wp2
 go_ret
 exact ⟨YW HF.o.symm,Z' _ _⟩):p:=h
end Go.Proofs
