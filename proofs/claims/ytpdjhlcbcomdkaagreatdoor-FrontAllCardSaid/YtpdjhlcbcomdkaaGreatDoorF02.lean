/- Part of a proof. -/
import Derived.Test.YtpdjhlcbcomdkaaGreatDoorF01
import Derived.Test.YtpdjhlcbcomdkaaGreatDoorF0Y
set_option linter.unusedVariables false
set_option linter.unusedSimpArgs false
set_option maxRecDepth 100000
set_option maxHeartbeats 16000000
open Go Go.Q
namespace Go.Proofs
theorem gT {p:Prop} (h:p:=by
 have UD:=H1.o.z
 have VD:=H1.o.Y8
 go_wp2_with (first|(go_at_call 116;refine CW.o.mono ?_;rintro e w' ⟨rfl,rfl⟩)|(with_reducible refine Yp 173 (.tmp 5) rfl ?_;refine Yd rfl 173 (.tmp 5) rfl (w.heap.size+1) rfl 173 Y9 (0,0) _ VD Tryz.underlying173 rfl Zg ?_)|(with_reducible refine ZY 173 (.tmp 2) (.tmp 74) rfl ?_;refine ZW rfl 173 (.tmp 2) (.tmp 74) rfl rfl w.heap.size Y9 rfl rfl 173 Y9 UD Zg Zg Zg ?_))
 refine VR (v:= .tuple (Qo Y9 0 1)) ?_ rfl ?_
 ·exact gK
 exact Vj.o _ 1 UD H1.o.YI SM.o):p:=h
theorem aK {p:Prop} (h:p:=by
 clear ME JO U4
 have UD:=H1.o.z
 go_wp2_with (first|(go_at_call 116;refine CW.o.mono ?_;rintro e w' ⟨rfl,rfl⟩)|(go_at_call 117;refine CI.o.mono ?_;rintro e w4 ⟨⟨a,rfl,hit⟩,TE⟩;obtain ⟨xa,xc,ya,yc,za,zc,ha,Nh⟩:=LW hit;subst ha;have Ap:=Zh Nh;have BD:=(TE.block w.heap.size (ZQ UD)).trans UD;have Ur:=Zh (H1.o.YI.trans (TE.mono H1.o.YI.size));clear hit Nh TE)|(with_reducible refine ZY 173 (.tmp 2) (.tmp 88) rfl ?_;refine ZW rfl 173 (.tmp 2) (.tmp 88) rfl rfl w.heap.size (Qc i.kind i.X5 i.JA i.time i.Xv i.octets xa i.blocks.length xc ya i.gone.length yc i.Ye za i.XV.length zc) rfl rfl 173 Y9 BD Zg Zg Zg ?_))
 refine VR (v:= .tuple (Qo (Qc i.kind i.X5 i.JA i.time i.Xv i.octets xa i.blocks.length xc ya i.gone.length yc i.Ye za i.XV.length zc) (Z:Int) 0)) ?_ rfl ?_
 ·exact au
 exact ⟨⟨_,by rw [SM.o],by rw [SM.o];exact Om (Ap.o.setRow BD _)⟩,Z0 Ur.o (ZB _) _⟩):p:=h
theorem aR {p:Prop} (h:p:=by
 have SM:Hid (X=((X8,0),2)):=by show _=_;rw [pK.o,ZX Vr]
 have dz:decide ((b.length:Int)<(Z:Int))=true:=Ws Zo
 have UD:=H1.o.z
 have VD:=H1.o.Y8
 go_wp2_with (first|(go_at_call 116;refine CW.o.mono ?_;rintro e w' ⟨rfl,rfl⟩)|(with_reducible refine Yp 173 (.tmp 5) rfl ?_;refine Yd rfl 173 (.tmp 5) rfl (w.heap.size+1) rfl 173 Y9 (0,0) _ VD Tryz.underlying173 rfl Zg ?_)|(with_reducible refine ZY 173 (.tmp 2) (.tmp 82) rfl ?_;refine ZW rfl 173 (.tmp 2) (.tmp 82) rfl rfl w.heap.size Y9 rfl rfl 173 Y9 UD Zg Zg Zg ?_))
 refine VR (v:= .tuple (Qo Y9 0 2)) ?_ rfl ?_
 ·exact gK
 exact Vj.o _ 2 UD H1.o.YI SM.o):p:=h
theorem Yx4 {p:Prop} (h:p:=by
 rw [jm]
 go_upto_region 10 with (go_at_call 93;refine CI.o.mono ?_;rintro e w2 ⟨⟨a,rfl,hit⟩,Y0⟩;obtain ⟨xa,xc,ya,yc,za,zc,ha,Nh⟩:=LW hit;subst ha;have Ap:=Zh Nh;have XA:=Zh Y0;clear hit Nh Y0)
 clear CI
 have JH:Hid (Below w w (w2.alloc (.cells (Qc i.kind i.X5 i.JA i.time i.Xv i.octets xa i.blocks.length xc ya i.gone.length yc i.Ye za i.XV.length zc) 173))):=ZA (Rf.o.trans (XA.o.mono Vr)) (ZB _) _
 by_cases SE:er=0
 rotate_left
 ·have E0:Hid (X=([],er)):=by show _=_;rw [HX.o,Pt.o,HE.o SE]
  have bl:(er != 0)=true:=by rw [TF];exact SE
  clear HX Pt HE
  go_wp2_with fail
  go_ret2
  exact ⟨⟨.slice none 0 0,by rw [E0.o];rfl,by rw [E0.o];exact YV.nil _⟩,JH.o⟩
 subst SE
 have hnr:n≤r.length:=mO.o DJ
 obtain ⟨a2,U4,-,Z7⟩:=Tt (P:=Tryz.prog) Wn ra r.length rc n hnr mi
 have WS:=Zh Z7
 have Ay:=Z5 w2 (.cells (Qc i.kind i.X5 i.JA i.time i.Xv i.octets xa i.blocks.length xc ya i.gone.length yc i.Ye za i.XV.length zc) 173)
 have Nk:=XA.o.size
 have Hd:Hid (Below w w ((w2.alloc (.cells (Qc i.kind i.X5 i.JA i.time i.Xv i.octets xa i.blocks.length xc ya i.gone.length yc i.Ye za i.XV.length zc) 173)).alloc (.cells (Qc i.kind i.X5 i.JA i.time i.Xv i.octets xa i.blocks.length xc ya i.gone.length yc i.Ye za i.XV.length zc) 173))):=ZA JH.o (ZB _) _
 have Ea:Below w2 w2 ((w2.alloc (.cells (Qc i.kind i.X5 i.JA i.time i.Xv i.octets xa i.blocks.length xc ya i.gone.length yc i.Ye za i.XV.length zc) 173)).alloc (.cells (Qc i.kind i.X5 i.JA i.time i.Xv i.octets xa i.blocks.length xc ya i.gone.length yc i.Ye za i.XV.length zc) 173)):=ZA (Z' w2 _) (ZB _) _
 have OT:=Zh (X9 (X9 Yu.o XA.o) Ea)
 have wX:Hid (∀ x∈L++[⟨i,.slice xa i.blocks.length xc,.slice ya i.gone.length yc,.slice za i.XV.length zc⟩],UY ((w2.alloc (.cells (Qc i.kind i.X5 i.JA i.time i.Xv i.octets xa i.blocks.length xc ya i.gone.length yc i.Ye za i.XV.length zc) 173)).alloc (.cells (Qc i.kind i.X5 i.JA i.time i.Xv i.octets xa i.blocks.length xc ya i.gone.length yc i.Ye za i.XV.length zc) 173)) x):=fun x hx=>by
  rcases De.1 hx with h|h
  ·exact ((Hf.o x h).below XA.o).below Ea
  ·rw [I9] at h;subst h;exact Ap.o.below Ea
 have qj:=UJ (w2.alloc (.cells (Qc i.kind i.X5 i.JA i.time i.Xv i.octets xa i.blocks.length xc ya i.gone.length yc i.Ye za i.XV.length zc) 173)) 173 1 (Qc i.kind i.X5 i.JA i.time i.Xv i.octets xa i.blocks.length xc ya i.gone.length yc i.Ye za i.XV.length zc) Zd
 rw [show (w2.alloc _).heap.size=w2.heap.size+1 by show (w2.heap.push _).size=_;rw [Rg]] at qj
 replace qj:=Zh qj
 have SY:∀ u∈((Qc i.kind i.X5 i.JA i.time i.Xv i.octets xa i.blocks.length xc ya i.gone.length yc i.Ye za i.XV.length zc):List Value),u.oneCell'=true:=by
  intro u hu
  simp only [KG,List.mem_nil_iff,or_false] at hu
  rcases hu with rfl|rfl|rfl|rfl|rfl|rfl|rfl|rfl|rfl|rfl <;> rfl
 have HONE:=Zh SY
 clear Ea Z7 SY
 go_wp2_with (first|(with_reducible refine Yp 173 (.tmp 6) rfl ?_;refine Yd rfl 173 (.tmp 6) rfl w2.heap.size rfl 173 (Qc i.kind i.X5 i.JA i.time i.Xv i.octets xa i.blocks.length xc ya i.gone.length yc i.Ye za i.XV.length zc) (0,0) _ Ay Tryz.underlying173 rfl Zg ?_)|(at_builtin;refine Za rfl (.tmp 30) (.tmp 32) 82 rfl w.heap.size Js (.slice oa j oc) j (L.flatMap Y6) rfl OT.o _ 1 (Qc i.kind i.X5 i.JA i.time i.Xv i.octets xa i.blocks.length xc ya i.gone.length yc i.Ye za i.XV.length zc) rfl qj.o rfl HONE.o Zo Zo Hd.o.size (fun v' w4 HO4 HG4=>?_)))
 have HBW4:Hid (Below w w w4):=((Fr.Z9 Lm Hd.o).grown HG4.o Hd.o.size (Yw OT.o)).below
 obtain ⟨na,nc,Ig,-⟩:=Row.ZV HO4.o
 subst Ig
 go_roundw
 case rel=>
  refine ⟨j+1,r.drop n,a2,rc-n,L++[⟨i,.slice xa i.blocks.length xc,.slice ya i.gone.length yc,.slice za i.XV.length zc⟩],Zo,by rw [SP,HLJ.o];rfl,by rw [RU];omega,by rw [RU],rfl,by rw [WN Zo],HBW4.o,?_,?_,?_,?_,?_⟩
  ·have h:=HO4.o
   rw [QL]
   exact h
  ·intro x hx
   exact (wX.o x hx).lF (WV HG4.o) (X4 OT.o Zd) (X4 OT.o Zd) (X4 OT.o Zd)
  ·intro w'' hb
   have h:=WS.o w'' (Sr r) (by rw [XI];omega) (HR.o w'' hb)
   show Yf w'' _ (r.drop n).length (Sr (r.drop n))
   rw [RU,←Rs]
   simpa using h
  ·intro h
   have hl:¬r.length-n=0:=by
    rcases h with h|h
    ·omega
    ·rw [RU] at h;omega
   rw [Pt.o,HM.o DJ hl,show 8-(j+1)=q by omega,ND]
   rfl
  ·intro h
   have hl:r.length-n=0:=by
    rw [RU] at h
    omega
   rw [Pt.o,Lb.o DJ hl,ND]
   rfl
 case measure=>simp [sU];omega):p:=h
theorem Yx5 {p:Prop} (h:p:=by
 go_simp
 refine hK.out _ _ ?_ (fun _=>?_)
 ·(try dsimp only)
  (first|exact ZC.o _ QK|go_keep)
 clear hK K
 try simp only [Z3.pt]
 refine wpAnyH_ready (rs:=[13]) Zg Zi ?_
 refine AllReadyH.cons (i:=13) rfl (fun K hK=>?_) ?_
 ·(first|(go_at_call 51;go_split_ands;(with_reducible refine Calls.mono (CA.o _ QK) ?_);rintro e w4 ⟨rfl,TE⟩;have oz:=Below.trans QK (TE.mono (Below.size QK));have Ol:TG w w4 pv sv Kz (T.YU (k+1)) ms UU:=TG.below DK TE;have rr4:Below wr wr w4:=Heap.Below.call QK (ZB _) TE;have c4:=Ol.tb.cells.2.2;have f4:=Ol.tb.frozen 2;have ne4:=World.new_ne w4 _ c4;have BD:=Ol.tb.size)|(go_split_ands;refine Zw Zr (.tmp 57) (.tmp 68) 49 Zr (w.heap.size+2) VZ Kz UU.length (UU.flatMap ZL) Zr ?_ _ 1 (Qg xp xs xw xq) Zr ?_ Zr (S7 ⟨xp,xs,xw,xq⟩) Zo Zo ?_ ?_;(exact TG.su (pv:=pv) (sv:=sv) (P:=T.YU (k+1)) (ms:=ms) (us:=UU) DK);(repeat (first|((with_reducible refine Wa _ _ 1 (Qg xp xs xw xq) Zd _ ?_);rfl)|with_reducible refine Row.drew ?_));(exact Rh (Nat.succ_le_of_lt TJ) (Below.size (B:=wr.heap.size) QK));intro v' w3 HO HG;have jF:Row w3 3 (.slice (some ⟨gl,vU,none⟩) L.length MZ) L.length (ints L):=Row.grown (Row.below Fz QK) (TG.su (w:=w) (pv:=pv) (sv:=sv) (P:=T.YU (k+1)) (ms:=ms) (us:=UU) DK) HG.o Zd;have IY:=TG.NN (w:=w) (pv:=pv) (sv:=sv) (P:=T.YU (k+1)) (ms:=ms) (us:=UU) DK HG;have ou:=IY.YI;have c3:=IY.cells.2.2;have f3:=IY.frozen 2;obtain ⟨va,vc,hv⟩:=Yz HO.o;subst hv))
  refine hK.out _ _ ?_ (fun _=>?_)
  ·(try dsimp only)
   (first|exact ZC.o _ QK|go_keep)
  clear hK K
  try simp only [Z3.pt]
  refine YA 14 (h:=?_)
  refine wpAnyH_ready (rs:=[15]) Zg Zi ?_
  refine AllReadyH.cons (i:=15) rfl (fun K hK=>?_) ?_
  ·go_simp
   refine hK.out _ _ ?_ (fun _=>?_)
   ·(try dsimp only)
    (first|exact ZC.o _ QK|go_keep)
   clear hK K
   try simp only [Z3.pt]
   refine wpAnyH_done Zg ?_ _
   refine Py ?_
   have jg:TG w (w3.setCell ⟨w.heap.size+1,2,none⟩ (.slice va (UU.length+1) vc)) pv sv (.slice va (UU.length+1) vc) (T.YU (k+1)) ms (UU++[⟨xp,xs,xw,xq⟩]):=TG.Wz (w:=w) (pv:=pv) (sv:=sv) (P:=T.YU (k+1)) (ms:=ms) (us:=UU) DK ⟨xp,xs,xw,xq⟩ HO HG
   have dA:=jF.fr ((Fr.refl w3.heap.size (· = w.heap.size+1) w3).setAt 2 (.slice va (UU.length+1) vc)) (ZB _) (K9 IY Zd)
   go_wp2
   go_roundw
   case rel=>
    refine ⟨j+1,Zo,Zn,.slice va (UU.length+1) vc,?_,dA⟩
    rw [HU.o,←pL,HUU.o]
    exact jg
   case measure=>simp [intOf];omega
  exact AllReadyH.nil
 exact AllReadyH.nil):p:=h
theorem Yx6 {p:Prop} (h:p:=by
 refine hK.out _ _ ?_ (fun _=>?_)
 ·exact eN
 clear hK K
 try simp only [Z3.pt]
 refine wpAnyH_ready (rs:=[12]) Zg Zi ?_
 refine AllReadyH.cons (i:=12) rfl (fun K hK=>?_) ?_
 ·(first|(go_split_ands;refine Zw Zr (.const (.slice none 0 0)) (.tmp 23) 47 Zr w1.heap.size Vv (.slice none 0 0) 0 [] Zr (Us _ _ _ _) (.slice a T.ZK.length cap) T.ZK.length (T.ZK.flatMap Zf) Zr ?_ Dx.o (P_ _) Zo Zo ?_ ?_;(exact Tf.o _ WK);(exact Below.size WK);intro v1 w2 UK Pt;have Vb:=XW Pt.o;have YF:Below w1 w1 w2:=Heap.Below.call WK (ZB _) Vb;obtain ⟨k2,k3,k4,k5⟩:=ZC.o _ YF)|(go_split_ands;refine Zw Zr (.tmp 24) (.tmp 30) 47 Zr w1.heap.size Vv v1 (0+T.ZK.length) ([]++T.ZK.flatMap Zf) Zr ?_ _ 1 (Qw p (str nm)) Zr ?_ Zr (P8 ⟨p,nm⟩) Zo Zo ?_ ?_;(repeat (first|with_reducible exact UK.o|with_reducible refine XH ?_|with_reducible refine World.ownsRow.alloc ?_ _));(repeat (first|((with_reducible refine Wa _ _ 1 (Qw p (str nm)) Zd _ ?_);rfl)|with_reducible refine Row.drew ?_|with_reducible refine Row.below ?_ Vb));(exact Below.size WK);intro v2 w3 QJ Li;have WX:Below w1 w1 w3:=Below.grown WK Li.o (Below.size WK) (Yw UK.o);obtain ⟨k6,k7,k8,k9⟩:=ZC.o _ WX;obtain ⟨va,vc,hv⟩:=Yz QJ.o;subst hv))
  refine hK.out _ _ ?_ (fun _=>?_)
  ·exact eN
  clear hK K
  try simp only [Z3.pt]
  refine YA 13 (h:=YA 14 (h:=?_))
  refine wpAnyH_ready (rs:=[15]) Zg Zi ?_
  refine AllReadyH.cons (i:=15) rfl (fun K hK=>?_) ?_
  ·go_simp
   refine hK.out _ _ ?_ (fun _=>?_)
   ·exact eN
   clear hK K
   try simp only [Z3.pt]
   refine wpAnyH_done Zg ?_ _
   refine Py ?_
   go_wp2
   go_ret2
   obtain ⟨GJ,lS⟩:=mW.o _ WX
   have Z7:=Row.ZV QJ.o
   rw [KF,OD] at Z7
   have Bx:=GJ.Cm (l:=T.ZK++[⟨p,nm⟩]) Yo17
   exact VT HF (Row.nil _ _) Bx (lS.setAt _ _)
  exact AllReadyH.nil
 exact AllReadyH.nil):p:=h
theorem Yx7 {p:Prop} (h:p:=by
 refine hK.out _ _ ?_ (fun _=>?_)
 ·exact eN
 clear hK K
 try simp only [Z3.pt]
 refine wpAnyH_ready (rs:=[8]) Zg Zi ?_
 refine AllReadyH.cons (i:=8) rfl (fun K hK=>?_) ?_
 ·(first|(go_split_ands;refine Zw Zr (.const (.slice none 0 0)) (.tmp 79) 49 Zr V.heap.size VZ (.slice none 0 0) 0 [] Zr (Us _ _ _ _) (.slice a T.Z8.length cap) T.Z8.length (T.Z8.flatMap ZL) Zr ?_ Dx.o (Ug _) Zo Zo ?_ ?_;(exact Tf.o _ WK);(exact Below.size WK);intro v1 w2 UK Pt;have Vb:=XW Pt.o;have YF:Below V V w2:=Heap.Below.call WK (ZB _) Vb;have r2:Below w2 w2 w2:=YG _ _;obtain ⟨k2,k3⟩:=ZC.o _ YF)|(go_split_ands;refine Zw Zr (.tmp 80) (.tmp 82) 49 Zr V.heap.size VZ v1 (0+T.Z8.length) ([]++T.Z8.flatMap ZL) Zr ?_ _ 1 (Qg p n la false) Zr ?_ Zr (S7 ⟨p,n,la,false⟩) Zo Zo ?_ ?_;(exact ZF UK.o WK);(repeat (first|((with_reducible refine Wa _ _ 1 (Qg p n la false) Zd _ ?_);rfl)|with_reducible refine Row.drew ?_|with_reducible refine Row.below ?_ Vb));(exact Below.size WK);intro v2 w3 QJ Li;have WX:Below V V w3:=Below.grown WK Li.o (Below.size WK) (Yw UK.o);obtain ⟨k6,k7⟩:=ZC.o _ WX;obtain ⟨va,vc,hv⟩:=Yz QJ.o;subst hv))
  refine hK.out _ _ ?_ (fun _=>?_)
  ·exact eN
  clear hK K
  try simp only [Z3.pt]
  refine YA 9 (h:=YA 10 (h:=?_))
  refine wpAnyH_ready (rs:=[11]) Zg Zi ?_
  refine AllReadyH.cons (i:=11) rfl (fun K hK=>?_) ?_
  ·go_simp
   refine hK.out _ _ ?_ (fun _=>?_)
   ·exact eN
   clear hK K
   try simp only [Z3.pt]
   refine wpAnyH_done Zg ?_ _
   refine Py ?_
   go_wp2_with fail
   go_meet
   obtain ⟨GJ,lS⟩:=mW.o _ WX
   have Z7:=Row.ZV QJ.o
   rw [KF,OD] at Z7
   have Bx:=GJ.Mi (l:=T.Z8++[⟨p,n,la,false⟩]) Yo14
   exact ⟨Bx,lS.setAt _ _,(Fr.Z9 _ WX).setAt _ _⟩
  exact AllReadyH.nil
 exact AllReadyH.nil):p:=h
theorem Yx9 {p:Prop} (h:p:=by
 have HL:=S6 R k
 have uF:Hid (∀ j,j<(Z8 R k).length→(Z8 R k).getD j 0<9∧ZH R ((Z8 R k).getD j 0:Nat) k=true):=fun j h=>by
  refine ⟨Mo h,?_⟩
  rw [Sq,VQ h]
  exact (lq.1 (Pw h)).2
 have HTS:=Zh (IU R k)
 have HUL:Hid (∀ m,(SJ R k ((Z8 R k).take m)).length≤9):=fun m=>by unfold SJ;rw [UM,TU];omega
 have HUS:Hid (∀ j,j<(Z8 R k).length→SJ R k ((Z8 R k).take (j+1))=SJ R k ((Z8 R k).take j)++[⟨((Z8 R k).getD j 0:Nat),k,(R.sub k ((Z8 R k).getD j 0)).want,(R.sub k ((Z8 R k).getD j 0)).ZR⟩]):=fun j h=>by
  unfold SJ;rw [K8 h,ND];rfl
 have CSB:Hid (∀ (p:Nat) w1,ZH R p k=true→Below w w w1→Calls Tryz.prog 83 (Qs (some ⟨b,0,none⟩) p k) w1 fun e w'=>e = .returned (.tuple (Qx (Qg p k (R.sub k p).want (R.sub k p).ZR) true))∧Below w1 w1 w'):=fun p w1 hh h=>by
  have cs:=I7 b R p k w1 (HR.o w1 h)
  rw [hh,ZX rfl,Xf,Xf] at cs
  exact cs
 go_wp2_with fail
 refine (Lq b R k _ (HR.o _ qz.o.tb.YI)).mono ?_
 rintro e w3 ⟨⟨lv,rfl,Z7⟩,Ut⟩
 have HTG3:=Zh (qz.o.below Ut)
 have WS:=Zh Z7
 obtain ⟨la,MZ,rfl,hx⟩:=Z7
 clear hx Ut
 generalize Z8 R k=L at *
 go_wp2_with fail
 go_loopw [52] (fun i w'=>∃ j:Nat,j≤L.length∧i = .int .i64 j∧∃ Kz,TG w w' pv uA Kz PP fF (Sy R k++SJ R k (L.take j))∧Row w' 3 (.slice la L.length MZ) L.length (ints L)) (fun i _=>L.length-(intOf i).toNat)
 case atStart=>exact ⟨0,Zo,rfl,uv,by rw [List.take_zero];show TG _ _ _ _ _ _ _ (Sy R k++[]);rw [Df];exact HTG3.o,WS.o⟩
 case round=>
  clear R5 qz HTG3 WS Yg
  obtain ⟨j,hj,rfl,Kz,MT,Z7⟩:=hrel
  have R5:=Zh MT
  have Vr:=MT.tb.size
  have SD:=Zh MT.tb.YI
  have WS:=Zh Z7
  clear MT
  by_cases Oh:j<L.length
  ·obtain ⟨g,off,cap,e1,hg,YX⟩:=U9 Z7 Zo
   cases e1
   have hc:=YX j Oh
   have HM:=Zh (uF.o j Oh)
   have HU:=Zh (HUS.o j Oh)
   have hul:=HUL.o j
   have hul2:=ME
   clear YX Z7
   generalize L.getD j 0=p at *
   have CS:=Zh (fun w1 (h:Below w w w1)=>CSB.o p w1 HM.o.2 h)
   generalize (R.sub k p).want=wa at *
   generalize (R.sub k p).ZR=pa at *
   have hlen:(Sy R k++SJ R k (L.take j)).length≤90:=by rw [SP];omega
   generalize bW:Sy R k++SJ R k (L.take j)=UU at *
   have HUU:=Zh bW
   clear bW
   go_wp2_with (first|(go_at_call 83;refine (CS.o _ SD.o).mono ?_;rintro e w4 ⟨rfl,TE⟩;have uN:=Zh (R5.o.below TE);have hs4:=uN.o.tb.size;have c4:=uN.o.tb.cells.2.2;have f4:=uN.o.tb.frozen 2;have HROW4:=Zh (WS.o.below TE);clear TE)|(at_builtin;refine Za rfl (.tmp 64) (.tmp 66) 49 rfl (w.heap.size+2) VZ _ UU.length (UU.flatMap ZL) rfl (by exact ((uN.o.alloc _).alloc _).su) _ 1 (ZL ⟨p,k,wa,pa⟩) rfl (by exact YL _ _ 1 _ (ZL ⟨p,k,wa,pa⟩) Zd Zi) rfl (S7 _) Zo Zo VB (fun v' w5 HO HG=>?_);have fK:=TG.NN (w:=w) (pv:=pv) (sv:=uA) (P:=PP) (ms:=fF) (us:=UU) (by repeat (first|exact uN.o|refine TG.drew ?_|refine TG.alloc ?_ _)) HG;have c5:=fK.cells.2.2;have f5:=fK.frozen 2;obtain ⟨va,vc,hv⟩:=Yz HO.o;subst hv))
   go_roundw
   case rel=>
    have Ol:=(uN.o.alloc (.cells (Qg p k wa pa) 105)).alloc (.cells (Qg p k wa pa) 105)
    refine ⟨j+1,Zo,Zn,.slice va (UU.length+1) vc,?_,?_⟩
    ·rw [HU.o,←pL,HUU.o]
     exact Ol.Wz ⟨p,k,wa,pa⟩ HO HG
    ·exact (Row.grown ((HROW4.o.below (Z' _ _)).below (Z' _ _)) Ol.su HG.o Zd).fr ((Fr.refl _ (· = w.heap.size+1) _).setAt _ _) (ZB _) (K9 fK Zd)
   case measure=>simp [intOf];omega
  ·have ux:j=L.length:=by omega
   have hT:L.take j=L:=by rw [ux,qX]
   rw [hT] at R5
   clear hT Z7
   go_wp2
   go_roundw
   case rel=>
    repeat apply Exists.intro
    refine ⟨?_,rfl⟩
    exact ⟨k+1,Zo,Zn,uA,Kz,fF,by rw [HTS.o];exact R5.o,HM2.o⟩
   case measure=>simp [intOf];omega):p:=h
theorem aC {p:Prop} (h:p:=by
 go_upto_region 11 with (go_at_call 125;refine HC.o.mono ?_;rintro e w2 ⟨⟨a0,rfl,⟨cv,ev,pv,lL,q1,q2,q3⟩⟩,Y0⟩;obtain ⟨ca,cc,Di,-⟩:=id q1;obtain ⟨ea,ec,Ed,-⟩:=id q2;obtain ⟨pa,pc,NR,-⟩:=id q3;subst Di;subst Ed;subst NR;dsimp only [IB] at lL;subst lL;have HR:Hid (Vk w2 P (.slice ca P.Sa.length cc) (.slice ea P.ext.length ec) (.slice pa P.Zp.length pc)):=⟨q1,q2,q3⟩;have XA:=Zh Y0;clear q1 q2 q3 Y0)
 clear HC
 have JG:Hid (Below w w (w2.alloc (.cells (Qb P.UH P.type P.seq P.time P.X5 ca P.Sa.length cc P.UG P.VM ea P.ext.length ec pa P.Zp.length pc P.pad) 79))):=ZA XA.o (ZB _) _
 by_cases SE:er=0
 ·subst SE
  have HD:Hid (∀ w1,Below w2 w2 w1→Calls Tryz.prog 126 #[.slice pa P.Zp.length pc] w1 fun e w'=>e = .returned (.tuple (Qn (Qd (YN P.Zp).1.Zu (YN P.Zp).1.key (YN P.Zp).1.start (YN P.Zp).1.frame) (YN P.Zp).2))∧Below w1 w1 w'):=fun w1 h=>AG _ P.Zp w1 (HR.o.p.below h).r
  rw [Z6 Zi] at HX
  generalize YN P.Zp=D at *
  obtain ⟨d,de⟩:=D
  dsimp only at HD HX
  have Nk:w2.heap.size<(w2.alloc (.cells (Qb P.UH P.type P.seq P.time P.X5 ca P.Sa.length cc P.UG P.VM ea P.ext.length ec pa P.Zp.length pc P.pad) 79)).heap.size:=by show _<(w2.heap.push _).size;rw [Rg];exact Nat.lt_succ_self _
  have Z7:=Z5 w2 (.cells (Qb P.UH P.type P.seq P.time P.X5 ca P.Sa.length cc P.UG P.VM ea P.ext.length ec pa P.Zp.length pc P.pad) 79)
  have HRA:=Zh (HR.o.below (Z' w2 (.cells (Qb P.UH P.type P.seq P.time P.X5 ca P.Sa.length cc P.UG P.VM ea P.ext.length ec pa P.Zp.length pc P.pad) 79)))
  go_upto_region 14 with (go_at_call 126;refine (HD.o _ (Z' _ _)).mono ?_;rintro e w3 ⟨rfl,Ut⟩;have T_:=Zh Ut;have y0:=(Ut.block _ Nk).trans Z7;have AA:w2.heap.size<w3.heap.size:=Px Nk Ut.size;clear Ut)
  have yx:=Zh (HRA.o.below T_.o)
  have T9:Hid (Below w w w3):=JG.o.trans (T_.o.mono JG.o.size)
  have ET:Hid (Below w w (w3.alloc (.cells (Qd d.Zu d.key d.start d.frame) 81))):=ZA T9.o (ZB _) _
  have Nz:=Zh (yx.o.below (Z' w3 (.cells (Qd d.Zu d.key d.start d.frame) 81)))
  have y1:=((Z' w3 (.cells (Qd d.Zu d.key d.start d.frame) 81)).block _ AA).trans y0
  clear Z7 HRA T_ HD
  by_cases lQ:de=0
  ·subst lQ
   rw [Z6 Zi] at HX
   go_wp2_with (with_reducible refine Yp 79 (.tmp 6) rfl ?_;refine Yd rfl 79 (.tmp 6) rfl w2.heap.size rfl 79 (Qb P.UH P.type P.seq P.time P.X5 ca P.Sa.length cc P.UG P.VM ea P.ext.length ec pa P.Zp.length pc P.pad) (0,0) _ y1 Tryz.underlying79 rfl Zg ?_)
   go_ret2
   exact ⟨⟨_,by rw [HX.o];rfl,by rw [HX.o];exact ⟨_,_,_,rfl,Nz.o⟩⟩,ET.o⟩
  ·have bl:(de != 0)=true:=by rw [TF];exact lQ
   have bH:(de == 0)=false:=by rw [WT];exact lQ
   rw [ZX lQ] at HX
   go_wp2_with fail
   go_ret2
   exact ⟨⟨.nilIface,by rw [HX.o];rfl,by rw [HX.o];rfl⟩,ET.o⟩
 ·have bl:(er != 0)=true:=by rw [TF];exact SE
  have bH:(er == 0)=false:=by rw [WT];exact SE
  rw [ZX SE] at HX
  go_wp2_with fail
  go_ret2
  exact ⟨⟨.nilIface,by rw [HX.o];rfl,by rw [HX.o];rfl⟩,JG.o⟩):p:=h
theorem Yx11 {p:Prop} (h:p:=by
 have bV:=Zh hT
 have HC:Hid (may s.data.toList=((rn s.data.toList).all (fun p=>JB p.1) && decide (1≤(rn s.data.toList).length) && decide ((rn s.data.toList).length≤8))):=rfl
 have HU:Hid (runes s.data.toList=if (rn s.data.toList).all good then ((rn s.data.toList).length:Int) else -1):=rfl
 have CR:=Zh (zD s w hs hT)
 clear hT
 by_cases hr:1≤runes s.data.toList∧runes s.data.toList≤8
 ·obtain ⟨jB,Lf⟩:=hr
  have HL:Hid (((rn s.data.toList).length:Int)=runes s.data.toList):=by
   have:=HU.o
   split at this
   ·exact this.symm
   ·omega
  have hlen:1≤(rn s.data.toList).length∧(rn s.data.toList).length≤8:=by have:=HL.o;omega
  have HC2:Hid (may s.data.toList=(rn s.data.toList).all (fun p=>JB p.1)):=by
   show _=_
   rw [HC.o];simp [hlen]
  generalize runes s.data.toList=q at *
  go_enter Tryz.func120,Tryz.ntmps120
  go_wp2_with (go_at_call 148;refine CR.o.mono ?_;rintro e w1 ⟨rfl,Zj⟩)
  go_loopw [4] (fun a w'=>∃ k:Nat,Below w w w'∧a = .int .i64 (cutAt s.data.toList k)∧k≤(rn s.data.toList).length∧Hid (((rn s.data.toList).take k).all (fun p=>JB p.1)=true)) (fun a _=>s.size-(intOf a).toNat)
  case atStart=>exact ⟨0,Zj,rfl,TS _,rfl⟩
  case round=>
   obtain ⟨k,hb,rfl,hle,Vc⟩:=hrel
   by_cases hp:cutAt s.data.toList k<s.size
   ·have hwd:=Lib.decode_width_pos s _ hp
    obtain ⟨h1,h2,h3,h4⟩:=K2 s k hp
    have fC:cutAt s.data.toList k+(Utf8.decode s (cutAt s.data.toList k)).2≤s.size:=by
     have:=Ho s.data.toList (k+1);rw [←Lib.size_eq] at this;omega
    have hr0:(Utf8.decode s (cutAt s.data.toList k)).1≤1114111:=by rw [←decodeL_drop];exact decodeL_rune _
    have H2:=Zh h2
    have H4:=Zh h4
    clear h2 h4
    have CD:=Zh (pV s (cutAt s.data.toList k) wr hp (Utf8Tabs_below bV.o hb))
    generalize hd:Utf8.decode s (cutAt s.data.toList k)=d at *
    have HD:=Zh hd
    clear hd
    obtain ⟨r,wd⟩:=d
    dsimp only at *
    have CO:Hid (∀ w,Calls Tryz.prog 150 #[.int .i32 r] w (fun e w'=>e = .returned (.bool (JB r))∧w=w')):=by
     intro w;have:=qI (r:Int) w Zo Zo;rwa [Xf] at this
    by_cases ho:JB r=true
    ·rw [ho] at CO
     have HO:=Zh ho
     clear ho
     go_wp2_with (first|(go_at_call 149;refine CD.o.mono ?_;rintro e w' ⟨rfl,Y0⟩)|(go_at_call 150;refine (CO.o _).mono ?_;rintro e w' ⟨rfl,rfl⟩))
     go_roundw
     case rel=>exact ⟨k+1,hb.trans (Y0.mono hb.size),by rw [H2.o];go_num,Zo,Lu Vc.o H4.o HO.o⟩
     case measure=>simp [intOf];omega
    ·have ho:JB r=false:=by simpa using ho
     rw [ho] at CO
     have HF:Hid (may s.data.toList=false):=by
      show _=_
      rw [HC2.o];exact DR H4.o ho
     clear ho
     go_wp2_with (first|(go_at_call 149;refine CD.o.mono ?_;rintro e w' ⟨rfl,Y0⟩)|(go_at_call 150;refine (CO.o _).mono ?_;rintro e w' ⟨rfl,rfl⟩))
     go_ret
     exact ⟨YB HF.o.symm,hb.trans (Y0.mono hb.size)⟩
   ·have cy:=Eo s k hp
    have HF:Hid (may s.data.toList=true):=by
     show _=_
     have e:(rn s.data.toList).length=k:=by omega
     have h:=Vc.o
     rw [←e,qX] at h
     rw [HC2.o,h]
    go_wp2
    go_ret
    exact ⟨YB HF.o.symm,hb⟩
 ·have HF:Hid (may s.data.toList=false):=by
   show _=_
   rw [Ls];intro hm
   have hv:=FK hm
   have hu:=HU.o
   rw [ZX hv] at hu
   unfold may at hm
   simp at hm
   omega
  generalize runes s.data.toList=q at *
  by_cases hq:q<1
  ·go_enter Tryz.func120,Tryz.ntmps120
   go_wp2_with (go_at_call 148;refine CR.o.mono ?_;rintro e w1 ⟨rfl,Zj⟩)
   go_ret
   exact ⟨YB HF.o.symm,Zj⟩
  ·have vI:8<q:=by omega
   clear hr
   go_enter Tryz.func120,Tryz.ntmps120
   go_wp2_with (go_at_call 148;refine CR.o.mono ?_;rintro e w1 ⟨rfl,Zj⟩)
   go_ret
   exact ⟨YB HF.o.symm,Zj⟩):p:=h
theorem Yx12 {p:Prop} (h:p:=by
 have CM:=Zh (B_ s w hs hT)
 have HK:Hid (key s.data.toList=if may s.data.toList then s.data.toList.map low else []):=rfl
 have HL:Hid (s.data.toList.length=s.size):=(Lib.size_eq s).symm
 clear hT
 by_cases hm:may s.data.toList=true
 ·have HF:Hid (key s.data.toList=s.data.toList.map low):=by show _=_;rw [HK.o,ZX hm]
  rw [hm] at CM
  clear hm
  have cr:∀ w,(convert 9 30 (.string s)).run Tryz.prog w=_:=fun w=>Go.Lib.run_convert_string_bytes w 9 30 5 s Tryz.underlying9 Tryz.underlying30 Tryz.underlying5
  go_enter Tryz.func121,Tryz.ntmps121
  go_wp2_with (first|(go_at_call 120;refine CM.o.mono ?_;rintro e w1 ⟨rfl,hb⟩))
  have Zj:=hb.trans ((A6 w1 5 s).mono hb.size)
  have jB:=Mh w1 5 s
  have hB:w.heap.size≤w1.heap.size:=hb.size
  generalize grownCap w1 s.size 0 5=cap
  generalize bytesWorld w1 5 s=wB at *
  generalize w1.heap.size=B at *
  clear cr hb
  go_loopw [13] (fun i w'=>∃ k:Nat,Below w w w'∧i = .int .i64 k∧k≤s.size∧Ny w' B 0 ((s.data.toList.take k).map low++s.data.toList.drop k)) (fun i _=>s.size-(intOf i).toNat)
  case atStart=>exact ⟨0,Zj,rfl,TS _,by simpa using jB⟩
  case round=>
   obtain ⟨k,hb,rfl,hle,Z7⟩:=hrel
   have HR:=Zh Z7
   clear Z7 jB
   have hML:((s.data.toList.take k).map low++s.data.toList.drop k).length=s.size:=by
    simp only [SP,UM,TU,RU,HL.o];omega
   have ey:=Zh hML
   clear hML
   by_cases hk:k<s.size
   ·have hc:=(HR.o k (by rw [ey.o];exact hk)).1
    have KP:=(HR.o k (by rw [ey.o];exact hk)).2
    rw [OD] at hc KP
    rw [FJ _ _ (by rw [HL.o];exact hk)] at hc
    have HS:=Zh (zu s.data.toList k (by rw [HL.o];exact hk))
    have hx:=UInt8.toNat_lt (s.data.toList.getD k 0)
    have HW:∀ x:UInt8,Ny (wr.setCell ⟨B,k,none⟩ (.int .u8 x.toNat)) B 0 (((s.data.toList.take k).map low++s.data.toList.drop k).set k x):=by
     intro x
     have:=pA HR.o (i:=k) x
     rwa [OD] at this
    have HW:=Zh HW
    generalize uz:s.data.toList.getD k 0=x at *
    have HX:=Zh uz
    clear uz
    have HU:=Zh (jZ x)
    have HI:=Zh (jY x)
    by_cases c1:65≤x.toNat
    ·by_cases c2:x.toNat≤90
     ·have e:Hid (Value.int .u8 (x.toNat+32:Nat) = .int .u8 (low x).toNat):=by show _=_;rw [HU.o c1 c2]
      go_wp2
      go_roundw
      case rel=>
       refine ⟨k+1,hb.setCell VB _,Zn,Zo,?_⟩
       have:=HW.o (low x)
       rw [HS.o,HU.o c1 c2] at this
       simpa using this
      case measure=>simp [intOf];omega
     ·exact aw
    ·exact aw
   ·have hk:k=s.size:=by omega
    have Z7:=HR.o
    subst hk
    rw [←HL.o,qX,List.drop_length,Df] at Z7
    have Di:=G0 (P:=Tryz.prog) (c:=cap) 30 9 5 Z7 Tryz.underlying30 Tryz.underlying5 Tryz.underlying9
    rw [UM,HL.o] at Di
    clear Z7 HR
    go_wp2
    go_ret
    exact ⟨JC (by rw [HF.o]),hb⟩
 ·have hm:may s.data.toList=false:=by simpa using hm
  have HF:Hid (key s.data.toList=[]):=by show _=_;rw [HK.o,hm];rfl
  rw [hm] at CM
  clear hm
  go_enter Tryz.func121,Tryz.ntmps121
  go_wp2_with (first|(go_at_call 120;refine CM.o.mono ?_;rintro e w1 ⟨rfl,hb⟩))
  go_ret
  exact ⟨JC (by rw [HF.o];rfl),hb⟩):p:=h
theorem Yx14 {p:Prop} (h:p:=by
 have HR:Hid ((rn s.data.toList).length≤s.size):=by have:=Mg s.data.toList;rw [Lib.size_eq];exact this
 go_enter Tryz.func161,Tryz.ntmps161
 go_wp2
 go_loopw [3] (fun c w'=>∃ k:Nat,w'=w.iter s (cutAt s.data.toList k)∧c = .int .i64 k∧k≤(rn s.data.toList).length∧Hid (((rn s.data.toList).take k).all (fun p=>JB p.1)=true)) (fun _ w'=>s.size-w'.iterPos w.heap.size)
 case atStart=>exact ⟨0,rfl,rfl,TS _,rfl⟩
 case round=>
  obtain ⟨k,rfl,rfl,hle,Vc⟩:=hrel
  by_cases hp:cutAt s.data.toList k<s.size
  ·have hnx:∀ ty,(Instr.next (.pointer (some ⟨w,0,none⟩)) true ty).run Tryz.prog (w.iter s (cutAt s.data.toList k))=_:=fun ty=>run_next_any w s _ ty hp
   have hwd:=Lib.decode_width_pos s _ hp
   obtain ⟨h1,h2,h3,h4⟩:=K2 s k hp
   have H2:=Zh h2
   have H4:=Zh h4
   clear h2 h4
   have jo:k<s.size:=by omega
   generalize hd:Utf8.decode s (cutAt s.data.toList k)=d at *
   have HD:=Zh hd
   clear hd
   obtain ⟨r,wd⟩:=d
   dsimp only at *
   by_cases OO:JB r=true
   ·have HB:=Zh OO
    have hb:=OO
    unfold JB at hb
    simp only [Ui,Bool.or_eq_true,NB,Bool.not_eq_true',WT] at hb
    obtain ⟨⟨b1,b2⟩,b3⟩:=hb
    clear OO
    have t1:((r:Int) == 65533)=false:=by rw [WT];omega
    clear b3
    by_cases b4:r<127
    ·clear b2
     go_wp2
     go_roundw
     case rel=>exact ⟨k+1,by rw [H2.o],Zn,Zo,Lu Vc.o H4.o HB.o⟩
     case measure=>simp;omega
    ·have b5:159<r:=by omega
     clear b2
     go_wp2
     go_roundw
     case rel=>exact ⟨k+1,by rw [H2.o],Zn,Zo,Lu Vc.o H4.o HB.o⟩
     case measure=>simp;omega
   ·have HF:Hid (may s.data.toList=false):=by
     show _=_
     unfold may;rw [DR H4.o (by simpa using OO)];rfl
    have HC:Hid (r<33∨(127≤r∧r≤159)∨r=65533):=by
     show _∨_
     unfold JB at OO
     simp at OO;omega
    clear OO
    by_cases b1:r<33
    ·go_wp2
     go_ret
     exact ⟨YB HF.o.symm,Tg _ _ _⟩
    by_cases b2:127≤r∧r≤159
    ·obtain ⟨b2,b3⟩:=b2
     go_wp2
     go_ret
     exact ⟨YB HF.o.symm,Tg _ _ _⟩
    ·have b3:r=65533:=by have:=HC.o;omega
     subst b3
     go_wp2
     go_ret
     exact ⟨YB HF.o.symm,Tg _ _ _⟩
  ·have hnx:∀ ty,(Instr.next (.pointer (some ⟨w,0,none⟩)) true ty).run Tryz.prog (w.iter s (cutAt s.data.toList k))=_:=fun ty=>run_next_end w s _ ty hp
   have cy:=Eo s k hp
   have HM:Hid (may s.data.toList=(decide (1≤k) && decide (k≤8))):=by
    show _=_
    have e:(rn s.data.toList).length=k:=by omega
    have h:=Vc.o
    rw [←e,qX] at h
    unfold may;rw [h,e,Bool.true_and]
   by_cases c1:1≤k
   ·by_cases c2:k≤8
    ·go_wp2
     go_ret
     exact ⟨YB (by rw [HM.o];first|(simp [c1,c2];done)|(simp [c1,c2];omega)),Tg _ _ _⟩
    ·go_wp2
     go_ret
     exact ⟨YB (by rw [HM.o];first|(simp [c1,c2];done)|(simp [c1,c2];omega)),Tg _ _ _⟩
   ·go_wp2
    go_ret
    exact ⟨YB (by rw [HM.o];first|(simp [c1];done)|(simp [c1];omega)),Tg _ _ _⟩):p:=h
theorem uS {p:Prop} (h:p:=by
 have h:=Z5 (w.alloc (.cells Y9 173)) (.cells Y9 173)
 rw [show (w.alloc (.cells Y9 173)).heap.size=w.heap.size+1 by show (w.heap.push _).size=_;rw [Rg]] at h
 exact h):p:=h
theorem Yx17 {p:Prop} (h:p:=by
 have HR:Hid ((rn s.data.toList).length≤s.size):=by have:=Mg s.data.toList;rw [Lib.size_eq];exact this
 have bV:=Zh hT
 clear hT
 go_enter Tryz.func148,Tryz.ntmps148
 go_wp2
 go_loopw [3,4] (fun n a w'=>∃ k:Nat,Below w w w'∧n = .int .i64 k∧a = .int .i64 (cutAt s.data.toList k)∧k≤(rn s.data.toList).length∧Hid (((rn s.data.toList).take k).all good=true)) (fun _ a _=>s.size-(intOf a).toNat)
 case atStart=>exact ⟨0,YG _ _,rfl,rfl,TS _,rfl⟩
 case round=>
  obtain ⟨k,hb,rfl,rfl,hle,Vc⟩:=hrel
  by_cases hp:cutAt s.data.toList k<s.size
  ·have hwd:=Lib.decode_width_pos s _ hp
   obtain ⟨h1,h2,h3,h4⟩:=K2 s k hp
   have fC:cutAt s.data.toList k+(Utf8.decode s (cutAt s.data.toList k)).2≤s.size:=by
    have:=Ho s.data.toList (k+1);rw [←Lib.size_eq] at this;omega
   have H2:=Zh h2
   have H4:=Zh h4
   clear h2 h4
   have jo:k<s.size:=by omega
   have CD:=Zh (pV s (cutAt s.data.toList k) wr hp (Utf8Tabs_below bV.o hb))
   by_cases hg:good (Utf8.decode s (cutAt s.data.toList k))=true
   ·generalize hd:Utf8.decode s (cutAt s.data.toList k)=d at *
    have HD:=Zh hd
    clear hd
    have hG:¬(d.1=65533∧d.2=1):=by unfold good at hg;intro h;simp [h] at hg
    have HG:=Zh hg
    clear hg
    obtain ⟨r,wd⟩:=d
    dsimp only at *
    by_cases g1:r=65533
    ·have g2:((wd:Int) == 1)=false:=by rw [WT];omega
     subst g1
     clear hG
     exact ax
    ·have g2:((r:Int) == 65533)=false:=by rw [WT];omega
     clear hG g1
     exact ax
   ·have hg:good (Utf8.decode s (cutAt s.data.toList k))=false:=by simpa using hg
    have HF:Hid (runes s.data.toList = -1):=by
     show _=_
     unfold runes;rw [DR H4.o hg];rfl
    have hd:=yN hg
    rw [hd] at CD
    clear hg hd
    go_wp2_with (go_at_call 149;refine CD.o.mono ?_;rintro e w' ⟨rfl,Y0⟩)
    go_ret
    exact ⟨Y5 HF.o.symm,hb.trans (Y0.mono hb.size)⟩
  ·have cy:=Eo s k hp
   have HF:Hid (runes s.data.toList=(k:Int)):=by
    show _=_
    have e:(rn s.data.toList).length=k:=by omega
    have h:=Vc.o
    rw [←e,qX] at h
    unfold runes;rw [ZX h,e]
   go_wp2
   go_ret
   exact ⟨Y5 HF.o.symm,hb⟩):p:=h
theorem gU {p:Prop} (h:p:=by
 go_wp2_with (first|(go_at_call 78;refine (Rc 5 0 _).mono ?_;rintro e w5 ⟨⟨cs,rfl,Sv⟩,LM⟩;have QI:=Zh (Ur.o.trans (LM.mono Ur.o.size));have Ki:=(QI.o.block (w.heap.size+1) (ZQ HZ.o)).trans HZ.o;have hi:=Tc Sv;have hold:=Tb Sv;have SY:=Sv.one;have Pv:=Zh Sv;clear Sv LM)|(with_reducible refine ZY 100 (.tmp 6) (.tmp 48) rfl ?_;refine ZW rfl 100 (.tmp 6) (.tmp 48) rfl rfl (w.heap.size+1) cs.toArray rfl rfl 100 XQ Ki hi hold SY ?_))
 refine VR (v:= .agg cs.toArray) ?_ rfl ?_
 ·exact gL
 exact ⟨⟨cs,rfl,by rw [HX.o];exact Pv.o.setRow Ki _⟩,Z0 (T9.o.trans (QI.o.mono T9.o.size)) (JK _) _⟩):p:=h
theorem aJ {p:Prop} (h:p:=by
 go_enter Tryz.func151,Tryz.ntmps151
 go_wp2_with (first|(go_at_call 169;refine CK.o.mono ?_;rintro e w2 ⟨rfl,Y0⟩;have SG:=(Y0.block w.heap.size (ZQ TJ)).trans TJ;have XA:=Zh (Wy.o.trans (Y0.mono Wy.o.size));clear Y0)|(go_at_call 170;refine (GY _ b _ (HV.o _ XA.o)).mono ?_;rintro e w4 ⟨⟨a,rfl,hit⟩,TE⟩;generalize Yc b=RG at *;obtain ⟨⟨i,ri⟩,er⟩:=RG;dsimp only at hit;obtain ⟨xa,xc,ya,yc,za,zc,ha,Nh⟩:=LW hit;subst ha;have Ap:=Zh Nh;have BD:=(TE.block w.heap.size (ZQ SG)).trans SG;have Ur:=Zh (XA.o.trans (TE.mono XA.o.size));clear hit Nh TE)|(with_reducible refine ZY 173 (.tmp 2) (.tmp 36) rfl ?_;refine ZW rfl 173 (.tmp 2) (.tmp 36) rfl rfl w.heap.size (Qc i.kind i.X5 i.JA i.time i.Xv i.octets xa i.blocks.length xc ya i.gone.length yc i.Ye za i.XV.length zc) rfl rfl 173 Y9 BD Zg Zg Zg ?_))
 refine VR (v:= .tuple (Qo (Qc i.kind i.X5 i.JA i.time i.Xv i.octets xa i.blocks.length xc ya i.gone.length yc i.Ye za i.XV.length zc) (ri:Nat) er)) ?_ rfl ?_
 ·exact au
 exact ⟨⟨_,by rw [HX.o],by rw [HX.o];exact Om (Ap.o.setRow BD _)⟩,Z0 Ur.o (ZB _) _⟩):p:=h
theorem Oa {p:Prop} (h:p:=by
 (try dsimp only)
 (first|exact J0.o _ (Fr.Z9 _ WK)|exact J0.o _ (Fr.setAt (Fr.Z9 _ WK) _ _)|go_keep)):p:=h
theorem aL {p:Prop} (h:p:=by
 go_simp
 refine hK.out _ _ ?_ (fun _=>?_)
 ·(try dsimp only)
  (first|exact ZC.o _ QK|go_keep)
 clear hK K
 try simp only [Z3.pt]
 refine wpAnyH_ready (rs:=[10]) Zg Zi ?_
 refine AllReadyH.cons (i:=10) rfl (fun K hK=>?_) ?_
 ·(first|(go_split_ands;refine Zw Zr (.tmp 37) (.tmp 45) 48 Zr (w.heap.size+2) VY sv ms.length (ms.flatMap ZJ) Zr ?_ _ 1 (Qj xn xo xa pD.length xc xm) Zr ?_ Zr (QD ⟨xn,xo,pD,xm⟩ xa pD.length xc) Zo Zo ?_ ?_;(exact TG.sr (pv:=pv) (uv:=uv) (P:=T.YU (k+1)) (ms:=ms) (us:=T.Xw k) DK);(repeat (first|((with_reducible refine Wa _ _ 1 (Qj xn xo xa pD.length xc xm) Zd _ ?_);rfl)|with_reducible refine Row.drew ?_));(exact Rh (Nat.succ_le_of_lt TJ) (Below.size (B:=w1.heap.size) QK));intro v' w3 HO HG;have IY:=TG.Fh (w:=w) (pv:=pv) (uv:=uv) (P:=T.YU (k+1)) (ms:=ms) (us:=T.Xw k) DK HG;have ou:=IY.YI;have c3:=IY.cells.2.1;have f3:=IY.frozen 1;obtain ⟨va,vc,hv⟩:=Yz HO.o;subst hv))
  refine hK.out _ _ ?_ (fun _=>?_)
  ·(try dsimp only)
   (first|exact ZC.o _ QK|go_keep)
  clear hK K
  try simp only [Z3.pt]
  refine YA 11 (h:=?_)
  refine wpAnyH_ready (rs:=[12]) Zg Zi ?_
  refine AllReadyH.cons (i:=12) rfl (fun K hK=>?_) ?_
  ·go_simp
   refine hK.out _ _ ?_ (fun _=>?_)
   ·(try dsimp only)
    (first|exact ZC.o _ QK|go_keep)
   clear hK K
   try simp only [Z3.pt]
   refine wpAnyH_done Zg ?_ _
   refine Py ?_
   go_wp2_with fail
   go_meet
   exact ⟨_,ms++[(⟨xn,xo,pD,xm⟩,.slice xa pD.length xc)],TG.O4 (w:=w) (pv:=pv) (uv:=uv) (P:=T.YU (k+1)) (ms:=ms) (us:=T.Xw k) DK (⟨xn,xo,pD,xm⟩,.slice xa pD.length xc) (aj.o _ QK) HO HG,by rw [HF.o,ND,I6.o];rfl⟩
  exact AllReadyH.nil
 exact AllReadyH.nil):p:=h
theorem Yx22 {p:Prop} (h:p:=by
 have bV:=Zh hT
 have CM:=Zh (w_ s w hs)
 have HK:Hid (key s.data.toList=if may s.data.toList then s.data.toList.map low else []):=rfl
 clear hT
 by_cases hm:may s.data.toList=true
 ·have HF:Hid (key s.data.toList=mapD OS s.data.toList):=by
   show _=_
   rw [HK.o,ZX hm,sX _ (by rw [wN];exact FK hm)]
  have Nk:s.size<35184372088832:=by have:=xQ hm;rw [←Lib.size_eq] at this;omega
  rw [hm] at CM
  clear hm
  have CF:∀ w1,Below w w w1→Calls Tryz.prog 177 #[.func (.func 178) #[] #[],.string s] w1 fun e w'=>e = .returned (.string ⟨(Lib.mapD OS s.data.toList).toArray⟩)∧Below w1 w1 w':=by
   intro w1 hb
   refine Tryz.strings_Map_runes 178 #[] ?_ OS s w1 Nk ?_ ?_ (Utf8Tabs_below bV.o hb)
   ·exact fun args w=>by kernel_rfl
   ·intro W x hx _
    exact (qG (x:Int) W Zo Zo).mono fun e w' h=>⟨h.1,0,h.2.symm⟩
   ·intro x hx
    unfold OS;split <;> omega
  have CF:=Zh CF
  go_enter Tryz.func162,Tryz.ntmps162
  go_wp2_with (first|(go_at_call 161;refine CM.o.mono ?_;rintro e w1 ⟨rfl,hb⟩)|(go_at_call 177;refine (CF.o _ SN).mono ?_;rintro e w2 ⟨rfl,Y0⟩))
  go_ret
  refine ⟨?_,hb.trans (Y0.mono hb.size)⟩
  rw [HF.o];rfl
 ·have hm:may s.data.toList=false:=by simpa using hm
  have HF:Hid (key s.data.toList=[]):=by show _=_;rw [HK.o,hm];rfl
  rw [hm] at CM
  clear hm
  go_enter Tryz.func162,Tryz.ntmps162
  go_wp2_with (first|(go_at_call 161;refine CM.o.mono ?_;rintro e w1 ⟨rfl,hb⟩))
  go_ret
  exact ⟨JC (by rw [HF.o];rfl),hb⟩):p:=h
theorem aM {p:Prop} (h:p:=by
 have SM:Hid (X=((X8,0),4)):=by show _=_;rw [pJ.o,ZX Az]
 have dm:((m:Int) != 1)=true:=by rw [TF];omega
 have CW:=Zh (Am.o 0 0 Zo)
 have UD:=H1.o.z
 have VD:=H1.o.Y8
 go_wp2_with (first|(go_at_call 116;refine CW.o.mono ?_;rintro e w' ⟨rfl,rfl⟩)|(with_reducible refine Yp 173 (.tmp 5) rfl ?_;refine Yd rfl 173 (.tmp 5) rfl (w.heap.size+1) rfl 173 Y9 (0,0) _ VD Tryz.underlying173 rfl Zg ?_)|(with_reducible refine ZY 173 (.tmp 2) (.tmp 54) rfl ?_;refine ZW rfl 173 (.tmp 2) (.tmp 54) rfl rfl w.heap.size Y9 rfl rfl 173 Y9 UD Zg Zg Zg ?_))
 refine VR (v:= .tuple (Qo Y9 0 4)) ?_ rfl ?_
 ·exact gK
 exact Vj.o _ 4 UD H1.o.YI SM.o):p:=h
theorem aN {p:Prop} (h:p:=by
 go_simp
 refine hK.out _ _ ?_ (fun _=>?_)
 ·(try dsimp only)
  (first|exact ZC.o _ QK|go_keep)
 clear hK K
 try simp only [Z3.pt]
 refine wpAnyH_ready (rs:=[10]) Zg Zi ?_
 refine AllReadyH.cons (i:=10) rfl (fun K hK=>?_) ?_
 ·(first|(go_split_ands;refine Zw Zr (.tmp 20) (.tmp 28) 47 Zr (w.heap.size+2) Vv pv G.length (G.flatMap Zf) Zr ?_ _ 1 (Qw xn (str xs)) Zr ?_ Zr (P8 ⟨xn,xs⟩) Zo Zo ?_ ?_;(exact TG.pe (sv:=sv) (uv:=uv) (P:=G) (ms:=ms) (us:=T.Xw k) DK);(repeat (first|((with_reducible refine Wa _ _ 1 (Qw xn (str xs)) Zd _ ?_);rfl)|with_reducible refine Row.drew ?_));(exact Rh (Nat.succ_le_of_lt TJ) (Below.size (B:=w1.heap.size) QK));intro v' w3 HO HG;have IY:=TG.Fg (w:=w) (sv:=sv) (uv:=uv) (P:=G) (ms:=ms) (us:=T.Xw k) DK HG;have ou:=IY.YI;have c3:=IY.cells.1;have f3:=IY.frozen 0;obtain ⟨va,vc,hv⟩:=Yz HO.o;subst hv))
  refine hK.out _ _ ?_ (fun _=>?_)
  ·(try dsimp only)
   (first|exact ZC.o _ QK|go_keep)
  clear hK K
  try simp only [Z3.pt]
  refine YA 11 (h:=?_)
  refine wpAnyH_ready (rs:=[12]) Zg Zi ?_
  refine AllReadyH.cons (i:=12) rfl (fun K hK=>?_) ?_
  ·go_simp
   refine hK.out _ _ ?_ (fun _=>?_)
   ·(try dsimp only)
    (first|exact ZC.o _ QK|go_keep)
   clear hK K
   try simp only [Z3.pt]
   refine wpAnyH_done Zg ?_ _
   refine Py ?_
   go_wp2_with fail
   go_meet
   exact ⟨_,by rw [HF.o];exact TG.R_ (w:=w) (sv:=sv) (uv:=uv) (P:=G) (ms:=ms) (us:=T.Xw k) DK ⟨xn,xs⟩ HO HG⟩
  exact AllReadyH.nil
 exact AllReadyH.nil):p:=h
theorem gV {p:Prop} (h:p:=by
 rw [Gl.o] at vI
 have jA:=Row.ZV vI
 obtain ⟨pv',QB,Kz,MP,Bw,⟨L4,sw,Nk,AA⟩,mo⟩:=hr.Wh
 have sD:Kz = .slice (some ⟨g,0,none⟩) T.Z8.length cp:=by
  have h1:=cell_of MP 2
  rw [(ZC.o w' h).1] at h1
  simpa using h1.symm
 subst sD
 refine ⟨⟨pv',QB,.slice (some ⟨g,0,none⟩) T.Z8.length cp,by rw [hf.block b Ia (fun e=>LO e.symm)];exact MP,?_⟩,?_⟩
 ·rw [gD.o]
  exact ⟨Bw.fr hf (ZB _) (Jv _ Zd),⟨L4,sw,Nk.fr hf (ZB _) (Jv _ Zd),fun x hx=>(AA x hx).fr hf (ZB _) (Jv _ Zd)⟩,by rw [List.length_set];exact jA⟩
 ·have h1:Fr w (· = b) w W1:=(Fr.Z9 _ TL.o).trans (JI.o.mono Zo (fun _ _ h=>h))
  exact (h1.trans ((Fr.Z9 (· = b) h).mono Zo (fun _ _ h=>h))).setCell (Wc UL) _):p:=h
theorem aO {p:Prop} (h:p:=by
 clear SM
 go_enter Tryz.func108,Tryz.ntmps108
 go_wp2_with (go_at_call 131;refine CO.o.mono ?_;rintro e w2 ⟨⟨n,rfl⟩,Y0⟩;have T9:=Zh (Wy.o.trans (Y0.mono Wy.o.size));have SG:=(Y0.block w.heap.size (ZQ hz)).trans hz;have c0:=cell_of SG 0;simp only [R9,R8] at c0;clear Y0 SG)
 go_ret2
 exact ⟨⟨.slice none 0 0,by rw [HX.o];rfl,by rw [HX.o];exact Row.nil _ _⟩,by rw [HX.o];exact HR.o.below T9.o,Fr.Z9 _ T9.o⟩):p:=h
theorem aP {p:Prop} (h:p:=by
 go_simp
 refine hK.out _ _ ?_ (fun _=>?_)
 ·exact Oa
 clear hK K
 try simp only [Z3.pt]
 refine wpAnyH_ready (rs:=[5]) Zg Zi ?_
 refine AllReadyH.cons (i:=5) rfl (fun K hK=>?_) ?_
 ·(first|(go_split_ands;refine Zw Zr (.const (.slice none 0 0)) (.tmp 23) 47 Zr w1.heap.size Vv (.slice none 0 0) 0 [] Zr (Us _ _ _ _) (.slice a T.ZK.length cap) T.ZK.length (T.ZK.flatMap Zf) Zr ?_ Dx.o (P_ _) Zo Zo ?_ ?_;(exact Tf.o _ WK);(exact Below.size WK);intro v1 w2 UK Pt;have Vb:=XW Pt.o;have YF:Below w1 w1 w2:=Heap.Below.call WK (ZB _) Vb;obtain ⟨k2,k3,k4,k5⟩:=ZC.o _ YF)|(go_split_ands;refine Zw Zr (.tmp 24) (.tmp 30) 47 Zr w1.heap.size Vv v1 (0+T.ZK.length) ([]++T.ZK.flatMap Zf) Zr ?_ _ 1 (Qw p (str nm)) Zr ?_ Zr (P8 ⟨p,nm⟩) Zo Zo ?_ ?_;(repeat (first|with_reducible exact UK.o|with_reducible refine XH ?_|with_reducible refine World.ownsRow.alloc ?_ _));(repeat (first|((with_reducible refine Wa _ _ 1 (Qw p (str nm)) Zd _ ?_);rfl)|with_reducible refine Row.drew ?_|with_reducible refine Row.below ?_ Vb));(exact Below.size WK);intro v2 w3 QJ Li;have WX:Below w1 w1 w3:=Below.grown WK Li.o (Below.size WK) (Yw UK.o);obtain ⟨k6,k7,k8,k9⟩:=ZC.o _ WX;obtain ⟨va,vc,hv⟩:=Yz QJ.o;subst hv))
  exact Yx6
 exact AllReadyH.nil):p:=h
theorem aQ {p:Prop} (h:p:=by
 go_simp
 refine hK.out _ _ ?_ (fun _=>?_)
 ·exact Oa
 clear hK K
 try simp only [Z3.pt]
 refine wpAnyH_ready (rs:=[5]) Zg Zi ?_
 refine AllReadyH.cons (i:=5) rfl (fun K hK=>?_) ?_
 ·(first|(go_split_ands;refine Zw Zr (.const (.slice none 0 0)) (.tmp 79) 49 Zr V.heap.size VZ (.slice none 0 0) 0 [] Zr (Us _ _ _ _) (.slice a T.Z8.length cap) T.Z8.length (T.Z8.flatMap ZL) Zr ?_ Dx.o (Ug _) Zo Zo ?_ ?_;(exact Tf.o _ WK);(exact Below.size WK);intro v1 w2 UK Pt;have Vb:=XW Pt.o;have YF:Below V V w2:=Heap.Below.call WK (ZB _) Vb;have r2:Below w2 w2 w2:=YG _ _;obtain ⟨k2,k3⟩:=ZC.o _ YF)|(go_split_ands;refine Zw Zr (.tmp 80) (.tmp 82) 49 Zr V.heap.size VZ v1 (0+T.Z8.length) ([]++T.Z8.flatMap ZL) Zr ?_ _ 1 (Qg p n la false) Zr ?_ Zr (S7 ⟨p,n,la,false⟩) Zo Zo ?_ ?_;(exact ZF UK.o WK);(repeat (first|((with_reducible refine Wa _ _ 1 (Qg p n la false) Zd _ ?_);rfl)|with_reducible refine Row.drew ?_|with_reducible refine Row.below ?_ Vb));(exact Below.size WK);intro v2 w3 QJ Li;have WX:Below V V w3:=Below.grown WK Li.o (Below.size WK) (Yw UK.o);obtain ⟨k6,k7⟩:=ZC.o _ WX;obtain ⟨va,vc,hv⟩:=Yz QJ.o;subst hv))
  exact Yx7
 exact AllReadyH.nil):p:=h
theorem qP {p:Prop} (h:p:=by
 go_enter Tryz.func131,Tryz.ntmps131
 go_wp2_with (first|(go_at_call 160;refine CW.o.mono ?_;rintro e w2 ⟨rfl,rfl⟩)|(go_at_call 83;refine CS.o.mono ?_;rintro e w3 ⟨rfl,Ut⟩;have T_:=Zh Ut;clear Ut))
 go_ret2
 exact ⟨⟨0,by rw [qC.o];rfl⟩,ZA T_.o (ZB _) _⟩):p:=h
theorem gW {p:Prop} (h:p:=by
 have x1:w1.cell? ⟨w,1,none⟩=some (.int .i64 p):=WI 1
 have x2:w1.cell? ⟨w,2,none⟩=some (.int .i64 n):=WI 2
 have x3:w1.cell? ⟨w,3,none⟩=some (.int .i64 la):=WI 3
 have x4:w1.cell? ⟨w,4,none⟩=some (.string (str nm)):=WI 4
 have x5:w1.cell? ⟨w,5,none⟩=some (.slice sa ss.length sc):=WI 5
 have x6:w1.cell? ⟨w,6,none⟩=some (.slice ba bl bc):=WI 6
 clear Zj WI
 go_wp2_with (go_at_call 102;(with_reducible refine (C.o w1 (HR.o.below Wy.o)).mono ?_);rintro e w2 ⟨⟨tv,rfl,S0⟩,VE,Xm⟩)
 go_ret2
 exact VT HF S0 VE ((Fr.Z9 _ Wy.o).trans (Xm.mono Zo (fun _ _ h=>h)))):p:=h
theorem Yx31 {p:Prop} (h:p:=by
 obtain ⟨r,rfl⟩:=Rn h0
 rw [Xf]
 have hc:=pd r
 by_cases b1:r<33
 ·have HF:Hid (JB r=false):=by show _=_;rw [Ls,ne_eq,hc];omega
  clear hc
  exact nj
 by_cases b2:r<127
 ·have HF:Hid (JB r=true):=by show _=_;rw [hc];omega
  clear hc
  have t2:((r:Int) != 65533)=true:=by rw [TF];omega
  exact nj
 by_cases b3:r≤159
 ·have HF:Hid (JB r=false):=by show _=_;rw [Ls,ne_eq,hc];omega
  clear hc
  exact nj
 by_cases b4:r=65533
 ·have HF:Hid (JB 65533=false):=by show _=_;decide
  clear hc
  subst b4
  exact nj
 ·have HF:Hid (JB r=true):=by show _=_;rw [hc];omega
  clear hc
  have t2:((r:Int) != 65533)=true:=by rw [TF];omega
  clear b4
  go_enter Tryz.func150,Tryz.ntmps150
  go_wp2
  go_ret
  exact ⟨YB (by rw [HF.o];simp;omega),rfl⟩):p:=h
theorem uT {p:Prop} (h:p:=by
 (try dsimp only)
 first|exact ZC.o _ (Fr.Z9 _ (YG _ _).drew)|exact ZC.o _ (Fr.Z9 _ (Z' _ _).drew)|exact ZC.o _ KB.o|exact ZC.o _ (KB.o.alloc Nk _)|exact ZC.o _ (Ul KB.o Zo _)|exact ZC.o _ (Ul (KB.o.alloc Nk _) Nk _)):p:=h
theorem Yx33 {p:Prop} (h:p:=by
 go_ret
 have h1:Row (w.alloc (.cells (Zb [10,11]).toArray 66)) 66 (.slice (some ⟨w,0,none⟩) 2 2) 2 (Zb [10,11]):=UJ w _ 2 (Zb [10,11]) Zd
 have h2:=UJ (w.alloc (.cells (Zb [10,11]).toArray 66)) 5 17 (Sr fI) Zd
 have h3:=UJ ((w.alloc (.cells (Zb [10,11]).toArray 66)).alloc (.cells (Sr fI).toArray 5)) 32 5 ((u7 w.heap.size).flatMap fun y=>XF y.x) Zd
 have e1:(w.alloc (.cells (Zb [10,11]).toArray 66)).heap.size=w.heap.size+1:=by show (w.heap.push _).size=_;rw [Rg]
 have e2:((w.alloc (.cells (Zb [10,11]).toArray 66)).alloc (.cells (Sr fI).toArray 5)).heap.size=w.heap.size+2:=by show ((w.heap.push _).push _).size=_;rw [Rg,Rg]
 rw [e1] at h2
 rw [e2] at h3
 refine ⟨rfl,⟨h3,?_⟩,ZA (ZA (Z' w _) (ZB _) _) (ZB _) _⟩
 intro x hx
 simp only [u7,KG,List.mem_nil_iff,or_false] at hx
 rcases hx with rfl|rfl|rfl|rfl|rfl
 ·exact ⟨Row.nil _ _,Row.nil _ _,by decide⟩
 ·exact ⟨Row.nil _ _,Row.nil _ _,by decide⟩
 ·exact ⟨(h1.below (Z' _ _)).below (Z' _ _),Row.nil _ _,by show (Nc 2).name.length<_;decide⟩
 ·exact ⟨Row.nil _ _,Row.nil _ _,by decide⟩
 ·exact ⟨Row.nil _ _,h2.below (Z' _ _),by show (Nc 4).name.length<_;decide⟩):p:=h
theorem aS {p:Prop} (h:p:=by
 have hb:(er != 0)=true:=by rw [TF];exact SE
 have Y0:(er == 0)=false:=by rw [WT];exact SE
 rw [ZX SE] at HX
 go_wp2_with (first|(go_at_call 78;refine (Rc 3 er _).mono ?_;rintro e w5 ⟨⟨cs,rfl,Sv⟩,LM⟩;have QI:=Zh (XA.o.trans (LM.mono XA.o.size));have Ki:=(QI.o.block (w.heap.size+1) (ZQ HZ.o)).trans HZ.o;have hi:=Tc Sv;have hold:=Tb Sv;have SY:=Sv.one;have Pv:=Zh Sv;clear Sv LM)|(with_reducible refine ZY 100 (.tmp 4) (.tmp 26) rfl ?_;refine ZW rfl 100 (.tmp 4) (.tmp 26) rfl rfl (w.heap.size+1) cs.toArray rfl rfl 100 XQ Ki hi hold SY ?_))
 refine VR (v:= .agg cs.toArray) ?_ rfl ?_
 ·exact gL
 exact Vj.o _ cs _ (Z0 (T9.o.trans (QI.o.mono T9.o.size)) (JK _) _) (Pv.o.setRow Ki _) HX.o):p:=h
theorem nz {p:Prop} (h:p:=by
 go_enter Tryz.func96,Tryz.ntmps96
 go_wp2_with (go_at_call 48;(with_reducible refine (CA.o _ (Z' _ _)).mono ?_);rintro e w1 ⟨rfl,Zj⟩;obtain ⟨MQ,KP⟩:=TD Zj;have TJ:w.heap.size<w1.heap.size:=Px Zi Zj.size)
 go_ret
 exact ⟨Y5 HF.o.symm,(Z' _ _).trans (Zj.mono Zi)⟩):p:=h
theorem nA {p:Prop} (h:p:=by
 go_enter Tryz.func179,Tryz.ntmps179
 go_wp2_with (first|(go_at_call 191;refine HCK.o.mono ?_;rintro e w' ⟨rfl,rfl⟩)|(go_at_call 155;refine ub.o.mono ?_;rintro e w' ⟨rfl,rfl⟩))
 go_quiet ((go_at_call 192;exact Calls.quiet_of_same ((CS.o _).mono fun e w' h=>⟨h.1,h.2.symm⟩)))
 go_wp2
 go_ret2
 exact ⟨rfl,PA SD _⟩):p:=h
theorem aT {p:Prop} (h:p:=by
 rw [ZX (by simp [hj])] at HX
 rw [Bool.not_eq_true] at hj
 rw [hj]
 go_wp2_with (first|(go_at_call 78;refine (Rc 4 0 _).mono ?_;rintro e w5 ⟨⟨cs,rfl,Sv⟩,LM⟩;have QI:=Zh (T_.o.trans (LM.mono T_.o.size));have Ki:=(QI.o.block (w.heap.size+1) (ZQ HZ.o)).trans HZ.o;have hi:=Tc Sv;have hold:=Tb Sv;have SY:=Sv.one;have Pv:=Zh Sv;clear Sv LM)|(with_reducible refine ZY 100 (.tmp 4) (.tmp 35) rfl ?_;refine ZW rfl 100 (.tmp 4) (.tmp 35) rfl rfl (w.heap.size+1) cs.toArray rfl rfl 100 XQ Ki hi hold SY ?_))
 refine VR (v:= .agg cs.toArray) ?_ rfl ?_
 ·exact gL
 exact Vj.o _ cs _ (Z0 (T9.o.trans (QI.o.mono T9.o.size)) (JK _) _) (Pv.o.setRow Ki _) HX.o):p:=h
theorem aU {p:Prop} (h:p:=by
 clear HS oD
 go_wp2_with (first|(go_at_call 132;refine CG.o.mono ?_;rintro e w2 ⟨⟨tv,rfl,S0⟩,Rw,SX⟩;obtain ⟨ta,tc,oU,-⟩:=id S0;subst oU;have DD:=Zh S0;have MD:=Zh Rw;have UE:=Zh SX;have Nk:=SX.size;clear Rw SX S0)|(at_builtin;refine Za rfl (.tmp 60) (.tmp 61) 98 rfl w.heap.size XU _ G1.length (G1.flatMap Z_) rfl ?b1 _ Y1.length (Y1.flatMap Z_) rfl ?b2 ?b3 ?b4 ?b5 ?b6 ?b7 (fun v' w3 HO HG=>?_)))
 case b1=>exact Yj Yu.o UE.o (fun k hk=>by omega)
 case b2=>exact DD.o
 case b3=>exact Wf _
 case b4=>exact Yk _
 case b5=>omega
 case b6=>omega
 case b7=>omega
 go_roundw
 case rel=>
  refine ⟨j+1,Zo,Zn,by rw [HT.o,uM.o],?_,?_,?_⟩
  ·exact (U5.o.trans (UE.o.mono Vr (fun _ _ h=>h))).grown HG.o Zo (Yw Yu.o)
  ·rw [HT.o,uM.o]
   exact Z4.grown MD.o (Yj Yu.o UE.o (fun k hk=>by omega)) HG.o hb Zd
  ·rw [HT.o,uM.o]
   dsimp only
   rw [SP,QL]
   exact HO.o
 case measure=>simp [intOf];omega):p:=h
theorem qQ {p:Prop} (h:p:=by
 (try dsimp only)
 first|exact ⟨mS.o.pk.RJ 0,mS.o.pk.RJ 1,mS.o.pk.YI⟩|exact ⟨QJ.o.pk.RJ 0,QJ.o.pk.RJ 1,QJ.o.pk.YI⟩|exact ⟨UK.o.pk.RJ 0,UK.o.pk.RJ 1,UK.o.pk.YI⟩|exact ⟨k0,k1,KD.o.pk.YI⟩|exact yB.o _ (YG _ _).drew):p:=h
theorem aV {p:Prop} (h:p:=by
 go_loop [8,23] (fun n i=>∃ k:Nat,k≤s.length∧i = .int .i64 k∧n = .int .u64 (be (s.take k):Nat)) (fun _ i=>s.length-(intOf i).toNat)
 case atStart=>exact ⟨0,TS _,rfl,rfl⟩
 case round=>
  obtain ⟨k,hk,rfl,rfl⟩:=hrel
  by_cases hkq:k<s.length
  ·obtain ⟨g,off,cap,e1,_,_,hc⟩:=DU (l:=s) WS.o Zo
   cases e1
   have d:=hc k Zo
   have HB:Hid (be (s.take (k+1))=be (s.take k)*256+s[k].toNat):=by
    show _=_
    rw [List.take_succ_eq_append_getElem Zo,nL]
   have Rj:be (s.take k)<72057594037927936:=iD qK
   have hor:=pj (be (s.take k)) s[k] Rj
   have oq:=s[k].toNat_lt
   clear hc
   generalize s[k]=x at *
   generalize be (s.take k)=m at *
   go_wp2
   go_round
   case rel=>exact ⟨k+1,Zo,Zn,by rw [HB.o];go_num⟩
   case measure=>simp [intOf];omega
  ·obtain rfl:k=s.length:=by omega
   go_wp2
   go_ret2
   exact ⟨rfl,rfl⟩):p:=h
theorem aW {p:Prop} (h:p:=by
 have hc:=HC.o k W_
 have HBAD:Hid (¬(2≤ss.getD k 0∧ss.getD k 0<3221225472)→Ep=5):=by
  intro h
  rw [qu.o,ZX]
  rw [List.any_eq_true]
  refine ⟨ss.getD k 0,?_,by generalize ss.getD k 0=z at h ⊢;simp;omega⟩
  rw [Sq,VQ W_];exact Pw W_
 generalize hy:ss.getD k 0=y at *
 have HY:=Zh hy
 clear hy
 by_cases g1:y<2
 ·have HF:=Zh (HBAD.o Zo)
  go_wp2
  go_ret
  exact ⟨Y5 HF.o.symm,Z' _ _⟩
 by_cases g2:3221225472≤y
 ·have HF:=Zh (HBAD.o Zo)
  go_wp2
  go_ret
  exact ⟨Y5 HF.o.symm,Z' _ _⟩
 ·go_wp2
  go_round
  case rel=>exact ⟨k+1,Zo,Zn,fun j hj=>by by_cases Ke:j<k;exact Le.o j Ke;rw [show j=k by omega,HY.o];omega⟩
  case measure=>simp [intOf];omega):p:=h
theorem uU {p:Prop} (h:p:=by
 (try dsimp only)
 first|exact ZC.o _ (MF.o)|exact ZC.o _ pJ.o|exact ZC.o _ qD.o|exact ZC.o _ gH.o|exact ZC.o _ HX7.o|exact ZC.o _ HX8.o):p:=h
theorem Yx47 {p:Prop} (h:p:=by
 have HC:Hid (OS r=if 65≤r∧r≤90 then r-65+97 else r):=rfl
 by_cases b1:65≤r
 ·by_cases b2:r≤90
  ·have HF:Hid (OS r=r-65+97):=by show _=_;rw [HC.o,ZX ⟨b1,b2⟩]
   go_enter Tryz.func178,Tryz.ntmps178
   go_wp2
   go_ret
   exact ⟨Y5 HF.o.symm,rfl⟩
  ·have HF:Hid (OS r=r):=by show _=_;rw [HC.o,Z6 Zo]
   go_enter Tryz.func178,Tryz.ntmps178
   go_wp2
   go_ret
   exact ⟨Y5 HF.o.symm,rfl⟩
 ·have HF:Hid (OS r=r):=by show _=_;rw [HC.o,Z6 Zo]
  go_enter Tryz.func178,Tryz.ntmps178
  go_wp2
  go_ret
  exact ⟨Y5 HF.o.symm,rfl⟩):p:=h
theorem aX {p:Prop} (h:p:=by
 have x1:w1.cell? ⟨w,1,none⟩=some (.int .i64 p):=WI 1
 have x2:w1.cell? ⟨w,2,none⟩=some (.int .i64 n):=WI 2
 have x3:w1.cell? ⟨w,3,none⟩=some (.int .i64 la):=WI 3
 have x4:w1.cell? ⟨w,4,none⟩=some (.string (str nm)):=WI 4
 have x5:w1.cell? ⟨w,5,none⟩=some (.slice sa ss.length sc):=WI 5
 have x6:w1.cell? ⟨w,6,none⟩=some (.slice ba bl bc):=WI 6
 clear Zj WI
 go_wp2_with (go_at_call 101;(with_reducible refine (C.o w1 (HR.o.below Wy.o)).mono ?_);rintro e w2 ⟨⟨tv,rfl,S0⟩,VE,Xm⟩)
 go_ret2
 exact VT HF S0 VE ((Fr.Z9 _ Wy.o).trans (Xm.mono Zo (fun _ _ h=>h)))):p:=h
theorem aY {p:Prop} (h:p:=by
 have h:=Z5 (w.alloc (.cells (Qa kd peer src ly nm sa sl sc ba bl bc) 32)) (.cells XQ 100)
 have e:(w.alloc (.cells (Qa kd peer src ly nm sa sl sc ba bl bc) 32)).heap.size=w.heap.size+1:=by show (w.heap.push _).size=_;rw [Rg]
 rw [e] at h
 exact h):p:=h
theorem aZ {p:Prop} (h:p:=by
 have k2:=cell_of HG.o.Y8 6
 simp only [R9,R8,RT] at k2
 have f2:=ZI HG.o.Y8 6
 refine Z3.Xl hK _ _ ?_ (fun _=>?_)
 ·(try dsimp only)
  first|exact k2|exact k1|exact k0
 clear hK K
 try simp only [Z3.pt]
 refine YP 39 (h:=?_)
 refine YR 40 (h:=fun K hK=>?_)
 go_simp
 refine Z3.WO hK _ _ Zg ?_
 clear hK K
 try simp only [Z3.pt]
 refine Z3.Xz Zg ?_ _
 refine Py ?_
 go_wp2_with fail
 go_roundw
 case rel=>
  refine ⟨i+1,pos+24,na,nq,Zo,by have:=OI.o;omega,Zn,Zn,?_,?_⟩
  ·exact HG.o.set 6 (.slice na (i+1) nq)
  ·rw [Lj.o];exact KZ HO.o HG.o.Y8 Zd _ _
 case measure=>simp [intOf];omega):p:=h
theorem qR {p:Prop} (h:p:=by
 exact results_cell_row Zr _ _ (w.heap.size+1) 100 cs.toArray (0,0) _ Zr (setRow_heap _ _ _ _ _ _ Ki) Tryz.underlying100 rfl hi):p:=h
theorem gX {p:Prop} (h:p:=by
 exact Vt (p:=2) (u:=3) (v:=4) Zr _ _ w.heap.size 173 Y9 (0,0) _ Zr (setRow_heap _ _ _ _ _ _ UD) Tryz.underlying173 rfl Zg):p:=h
theorem gY {p:Prop} (h:p:=by
 exact Vt (p:=2) (u:=3) (v:=4) Zr _ _ w.heap.size 173 Y9 (0,0) _ Zr (setRow_heap _ _ _ _ _ _ SG) Tryz.underlying173 rfl Zg):p:=h
theorem gZ {p:Prop} (h:p:=by
 clear hK K
 try simp only [Z3.pt]
 refine wpAnyH_done Zg ?_ _
 refine Py ?_
 go_wp2_with fail
 go_roundw
 case rel=>exact ⟨j+1,.slice na (G1++Y1).length nc,Zo,Zn,by rw [Pv.o,Lj.o];have h8:=fX.o;simp only [SP] at h8 ⊢;exact h8⟩
 case measure=>simp [intOf];omega):p:=h
theorem g_ {p:Prop} (h:p:=by
 clear hK K
 try simp only [Z3.pt]
 refine wpAnyH_done Zg ?_ _
 refine Py ?_
 go_wp2_with fail
 go_roundw
 case rel=>exact ⟨j+1,_,Zo,Zn,HP6.o,by rw [Aq,ND,List.map_cons,List.map_nil,wM,E0.o,←HXS.o];exact EX.o⟩
 case measure=>simp [intOf];omega):p:=h
theorem Yx59 {p:Prop} (h:p:=by
 have hw:Region.wanted o (yielded ops a.tmps)=true:=by simp [Region.wanted,Ld]
 rw [ZX hw]
 obtain ⟨z,UQ,oZ⟩:=E.info
 obtain ⟨i,hi,hz,Rx,oC⟩:=info_parts UQ
 refine Go.wp_buildSlice t e 1 #[(0,x)] ho #[v] i z E.ht hi hz (by rw [Rx];omega) (by rw [Rx];omega) ?_ h
 have hf:=Go.Great.fill_whole (s:=i.size) Zo [v] ((Array.range (1*i.size)).map (z.cells[· % z.cells.size]!)) (fun u hu=>by rw [I9] at hu;subst hu;rw [hv];show 1=_;omega) Zi
 have e1:([v].flatMap fun v=>v.cells.toList).toArray=#[v]:=by simp [hv]
 rw [e1] at hf
 simpa [hx] using hf):p:=h
theorem qT {p:Prop} (h:p:=by
 have h2:=Pn Zo eX JO (HV.o w' h)
 rwa [show (b.drop 4).take (Z-4)=(b.drop 4).take (4*Lg) by rw [show Z-4=4*Lg by rw [HZ.o];omega]] at h2):p:=h
theorem nB {p:Prop} (h:p:=by
 rcases decodeN_shape n b0 b1 b2 b3 with ⟨c,e⟩|⟨c1,c2,c3,cv,e⟩|⟨c1,c2,c3,c4,cv,cs,e⟩|⟨c1,c2,c3,c4,c5,cv,cw,e⟩|e
 ·omega
 all_goals (rw [e];dsimp only;rw [hc _ Zo])):p:=h
theorem qU {p:Prop} (h:p:=by
 clear HW
 go_enter Tryz.func167,Tryz.ntmps167
 go_wp2
 go_ret
 exact ⟨YB HF.o.symm,rfl⟩):p:=h
theorem qV {p:Prop} (h:p:=by
 clear HF
 go_enter Tryz.func116,Tryz.ntmps116
 go_wp2
 go_ret
 exact ⟨by rw [HX.o];rfl,rfl⟩):p:=h
theorem a_ {p:Prop} (h:p:=by
 clear SM
 go_enter Tryz.func108,Tryz.ntmps108
 go_wp2_with (go_at_call 130;refine CO.o.mono ?_;rintro e w2 ⟨⟨n,l,rfl⟩,Y0⟩;have T9:=Zh (Wy.o.trans (Y0.mono Wy.o.size));have SG:=(Y0.block w.heap.size (ZQ hz)).trans hz;have c0:=cell_of SG 0;simp only [R9,R8] at c0;clear Y0 SG)
 go_ret2
 exact ⟨⟨.slice none 0 0,by rw [HX.o];rfl,by rw [HX.o];exact Row.nil _ _⟩,by rw [HX.o];exact HR.o.below T9.o,Fr.Z9 _ T9.o⟩):p:=h
theorem hJ {p:Prop} (h:p:=by
 go_enter Tryz.func164,Tryz.ntmps164
 go_wp2
 go_quiet (fail)
 go_wp2
 go_ret
 exact ⟨Y5 HF.o.symm,by repeat (first|exact YG _ _|refine below_drewN ?_ _|refine Below.drew ?_|refine Below.alloc ?_ Zi _)⟩):p:=h
theorem hU {p:Prop} (h:p:=by
 go_enter Tryz.func126,Tryz.ntmps126
 go_wp2
 exact VR (v:= .tuple (Qn (Qd 0 false false 0) 1)) (by simp [results,Tryz.results126,go_sem]) rfl ⟨rfl,Vb⟩):p:=h
theorem nC {p:Prop} (h:p:=by
 go_enter Tryz.func96,Tryz.ntmps96
 go_wp2
 go_ret
 exact ⟨Y5 HF.o.symm,Z' _ _⟩):p:=h
theorem h_ {p:Prop} (h:p:=by
 obtain ⟨a,c,rfl,-⟩:=id hv
 clear hv h3
 generalize X0 b=X at *
 go_enter Tryz.func105,Tryz.ntmps105
 go_wp2_with fail
 go_ret2
 exact ⟨⟨.nilIface,by rw [HX.o];rfl,by rw [HX.o];rfl⟩,YG _ _⟩):p:=h
theorem bf {p:Prop} (h:p:=by
 rintro e w1 ⟨rfl,rfl⟩
 go_wp2_with fail
 refine VR (v:= .tuple (Qx (Qg 0 0 0 false) false)) (by simp [results,Tryz.results83,go_sem]) rfl ⟨rfl,Z' _ _⟩):p:=h
theorem nD {p:Prop} (h:p:=by
 go_wp2
 go_roundw
 case rel=>exact ⟨k+1,Zo,Zn,XS.alloc XS.size _,HF.o⟩
 case measure=>simp [intOf];omega):p:=h
theorem bg {p:Prop} (h:p:=by
 have GF:=XZ f k hk l
 obtain ⟨g,off,cap,h1,h2,h3,h4,h5⟩:=h.open (by rw [GF];exact Nat.mul_pos hl lW)
 refine ⟨g,off,cap,h1,h2,h3,h4,fun i x hx j hj=>?_⟩
 have hi:i<l.length:=(List.getElem?_eq_some_iff.1 hx).1
 have Rj:i*k+j<l.length*k:=by
  have h6:(i+1)*k≤l.length*k:=Nat.mul_le_mul_right _ hi
  rw [Nat.succ_mul] at h6
  omega
 rw [Nat.add_assoc,h5 _ (by rw [GF];exact Rj)]
 exact NJ f k hk l i j x hx hj):p:=h
theorem bh {p:Prop} (h:p:=by
 have ht:∀ e,e≠51→∀ k c fr,k=w.heap.size→wr.heap[k]?≠some (.cells c e fr):=by
  intro e he k c fr hk
  subst hk
  rw [R5.o.tb.Lv]
  exact VX (fun h=>he h.symm)
 rw [HTAB.o]
 exact Sp.fr ⟨Row.ZV R5.o.pe,⟨ms,I6.o,Row.ZV R5.o.sr,R5.o.rows⟩,Row.ZV R5.o.su⟩ hf (ZB _) (ht _ Zd) (ht _ Zd) (ht _ Zd) (ht _ Zd)):p:=h
theorem nE {p:Prop} (h:p:=by
 clear HF
 go_enter Tryz.func61,Tryz.ntmps61
 go_wp2
 go_ret
 exact ⟨Md HX.o.symm,rfl⟩):p:=h
theorem bj {p:Prop} (h:p:=by
 have SM:Hid (X=(([],R),if Ve R peer md then 0 else 1)):=by show _=_;rw [He.o];simp
 have CO:=Zh (uP b R peer md _ MC.o vE Az)
 clear He hI hS pO hR vE Az Fq
 generalize Ve R peer md=O at *
 cases O with
 | false=>
  have HX:Hid (X=(([],R),1)):=by show _=_;rw [SM.o];rfl
  exact aO
 | true=>
  have HX:Hid (X=(([],R),0)):=by show _=_;rw [SM.o];rfl
  exact aO):p:=h
theorem bn {p:Prop} (h:p:=by
 rw [hn] at CN
 clear hn h hR
 go_enter Tryz.func81,Tryz.ntmps81
 go_wp2_with fail
 refine (CN.o _).mono ?_
 rintro e w1 ⟨rfl,rfl⟩
 go_wp2_with fail
 refine VR (v:= .tuple (Qx (Qj 0 0 none 0 0 false) false)) (by simp [results,Tryz.results81,go_sem]) rfl ⟨rfl,Z' _ _⟩):p:=h
theorem bo {p:Prop} (h:p:=by
 obtain ⟨la,MZ,rfl,hx⟩:=Z7
 clear hx
 have mO:Hid (L=[]):=DM h0
 go_wp2_with fail
 go_loopw [7,22] (fun v i w'=>v = .slice none 0 0∧i = .int .i64 0∧w'=w1) (fun _ _ _=>0)
 case atStart=>exact ⟨rfl,rfl,rfl⟩
 case round=>
  obtain ⟨rfl,rfl,rfl⟩:=hrel
  go_wp2
  go_ret
  rw [HM0.o,mO.o]
  exact ⟨⟨_,rfl,Row.nil _ _⟩,DC.o,KC.o⟩):p:=h
theorem bp {p:Prop} (h:p:=by
 clear hK K
 try simp only [Z3.pt]
 refine wpAnyH_done Zg ?_ _
 refine Py ?_
 go_wp2_with fail
 go_meet
 first|exact ⟨w2,cs,sv,rfl,Fe (KB.o.alloc Nk _) (Pv.o.below (Z' _ _)) (wU.o.below (Z' _ _)) (Z5 w2 _) Nk Zo Zo⟩|exact ⟨w.heap.size+2,cs,sv,rfl,Fe KB.o Pv.o wU.o hkB Zo Zo Zo⟩):p:=h
theorem ib {p:Prop} (h:p:=by
 go_enter Tryz.func20,Tryz.ntmps20
 go_wp2
 go_ret
 exact ⟨YB yD,((YG _ _).alloc (ZB _) _).alloc Zi _⟩):p:=h
theorem nG {p:Prop} (h:p:=by
 clear HW
 go_enter Tryz.func176,Tryz.ntmps176
 go_wp2
 go_ret
 exact ⟨YB HF.o.symm,rfl⟩):p:=h
theorem bq {p:Prop} (h:p:=by
 clear uj
 go_enter Tryz.func109,Tryz.ntmps109
 go_wp2_with (first|(go_at_call 111;refine (C1.o _).mono ?_;rintro e w1 ⟨rfl,rfl⟩)|(go_at_call 80;refine (CT.o _ (Z' _ _)).mono ?_;rintro e w1 ⟨rfl,rfl⟩))
 go_ret
 exact ⟨Y5 HF.o.symm,Z' _ _⟩):p:=h
theorem br {p:Prop} (h:p:=by
 obtain ⟨hl,h⟩:=h
 refine ⟨by rw [List.length_set];exact hl,?_⟩
 rcases h with ⟨_,h⟩|⟨g',cap',cur,hv,hg,hh,h1,h2,h3,h4⟩
 ·omega
 ·cases hv
  refine Wj ⟨g,cap,cur.setIfInBounds i u,rfl,hg,by simp [World.setCell,Array.getElem?_modify,hh],h1,h2,by rw [Array.size_setIfInBounds];exact h3,?_⟩
  rw [Array.toList_setIfInBounds,List.take_set,h4]):p:=h
theorem Yx93 {p:Prop} (h:p:=by
 rw [List.set_append_right _ _ VB]
 rw [List.take_add_one,VQ h]
 simp only [UM,TU,Option.toList,ND,List.map_cons,List.map_nil,pL]
 congr 1
 rw [show k-min k l.length=0 by omega,List.drop_eq_getElem_cons h,List.set_cons_zero,Sq,VQ h]
 rfl):p:=h
theorem bt {p:Prop} (h:p:=by
 obtain ⟨rfl,rfl⟩:=h0 rfl
 have:news=[]:=DM (by rw [hl,Nat.zero_mul])
 subst this
 refine wpList_append_own_none Ld s x t ho base e i size E.ht hi v n xs hs YO hx (h v w ?_ ?_)
 ·show World.ownsRow _ _ _ _ _ _ _;rw [Df];exact YO
 ·exact ⟨rfl,rfl,rfl,ZB _,fun _ _ _=>rfl⟩):p:=h
theorem bu {p:Prop} (h:p:=by
 exact Vt (p:=2) (u:=3) (v:=4) Zr _ _ w.heap.size 173 Y9 (0,0) _ Zr (setRow_heap _ _ _ _ _ _ TJ) Tryz.underlying173 rfl Zg):p:=h
theorem Yx97 {p:Prop} (h:p:=by
 rw [uz]
 show _∈DataW.weights Tryz.prog 32 (.agg (xs.map (·.1)))
 unfold DataW.weights
 rw [Tryz.underlying32]
 dsimp only
 refine DataW.weights_mem_each (j:=4) (t:=9) (d:= .lit (.string s4.data.toList)) rfl ?_ _ (by simp [DataW.weights])
 rw [List.getElem?_map,e4,gy4]
 rfl):p:=h
theorem ie {p:Prop} (h:p:=by
 have SM:Hid (X=((X8,0),1)):=by show _=_;rw [MF.o,ZX Zo]
 have dw:((Lg:Int) != (R:Int))=true:=by rw [TF];omega
 exact gT):p:=h
theorem ig {p:Prop} (h:p:=by
 have SM:Hid (X=((X8,0),1)):=by show _=_;rw [MF.o,ZX Zo]
 have dh:decide (15<(m:Int))=true:=Ws Zo
 exact gT):p:=h
theorem kE {p:Prop} (h:p:=by
 go_enter Tryz.func171,Tryz.ntmps171
 go_wp2_with (first|(go_at_call 155;refine CG.o.mono ?_;rintro e w' ⟨rfl,rfl⟩)|(go_at_call 182;refine HCZ.o.mono ?_;rintro e w' ⟨rfl,rfl⟩))
 go_ret2
 exact ⟨rfl,rfl⟩):p:=h
theorem kF {p:Prop} (h:p:=by
 rw [fB] at oK
 clear ht fB
 go_wp2_with (go_at_call 156;refine (CI.o _ (Z' _ _)).mono ?_;rintro e w1 ⟨rfl,rfl⟩)
 go_roundw
 case rel=>exact ⟨k+1,Zo,Zn,XS.trans ((Z' _ _).mono XS.size),HF.o⟩
 case measure=>simp [intOf];omega):p:=h
theorem kG {p:Prop} (h:p:=by
 obtain ⟨rfl,rfl⟩:=h0 rfl
 have:news=[]:=DM (by rw [hl,Nat.zero_mul])
 subst this
 refine ⟨v,w,run_append_owned_none (P:=P) (w:=w) base t ty e i size E.ht hi v n xs YO,?_,⟨rfl,rfl,rfl,ZB _,fun _ _ _=>rfl⟩⟩
 rw [Df];exact YO):p:=h
theorem qN {p:Prop} (h:p:=by
 go_wp2
 go_quiet (fail)
 go_wp2
 go_roundw
 case rel=>exact ⟨k+1,Zo,Zn,below_drewN ER.o _,HF.o⟩
 case measure=>simp [intOf];omega):p:=h
theorem kH {p:Prop} (h:p:=by
 clear hR
 go_enter Tryz.func110,Tryz.ntmps110
 go_wp2_with (go_at_call 140;refine (C.o _ yE).mono ?_;rintro e w1 ⟨⟨tv,rfl,S0⟩,XE,Xm⟩)
 go_ret
 exact T8 HF S0 XE yE Xm):p:=h
theorem kI {p:Prop} (h:p:=by
 by_cases hx:x0=n
 ·have HF:=Zh (HH.o (by rw [hx];simp))
  subst hx
  go_wp2
  go_ret
  exact ⟨Y5 HF.o.symm,XS.alloc XS.size _⟩
 ·have Dh:(x0 == n)=false:=by rw [WT];exact hx
  have HF:=Zh (HM.o Dh)
  clear hx
  exact nD):p:=h
theorem aD {p:Prop} (h:p:=by
 have hl:s.data.toList.length=s.size:=(Lib.size_eq s).symm
 have h1:=(Lz s.data.toList k).1 Zo
 refine ⟨h1,?_,ru _ _ Zo,?_⟩
 ·rw [Hp _ _ Zo,decodeL_drop]
 ·rw [VQ h1,dP _ _ h1,decodeL_drop]):p:=h
theorem kJ {p:Prop} (h:p:=by
 have e:(w.alloc (.cells (Qa kd p n q (str nm) sa ss.length sc ba bl bc) 32)).heap.size=w.heap.size+1:=by show (w.heap.push _).size=_;rw [Rg]
 rw [e] at h
 exact h):p:=h
theorem kK {p:Prop} (h:p:=by
 go_roundw
 case rel=>exact ⟨k+1,Zo,Zn,XS.trans (Y0.mono XS.size),Px Vr Y0.size,PT,fun j hj=>by by_cases Ke:j<k;exact Le.o j Ke;rw [show j=k by omega];exact HF.o⟩
 case measure=>simp [intOf];omega):p:=h
theorem aF {p:Prop} (h:p:=by
 rw [show j / 7*7+j % 7=j by omega] at this
 rw [this,←(hY (j / 7) hi).1 (j % 7) Zo]
 rw [Lt ha]
 unfold Addr.add
 split
 ·rename_i e;rw [show a.off+j=a.off+j / 7*7 by omega]
 ·rw [show a.off+j=a.off+j / 7*7+j % 7 by omega]):p:=h
theorem kL {p:Prop} (h:p:=by
 obtain ⟨g,off,cap,h1,h2,h3,h4,h5⟩:=h.open (by rw [Wx];exact hl)
 refine ⟨g,off,cap,h1,h2,h3,h4,fun j hj=>?_⟩
 rw [h5 j (by rw [Wx];exact hj),Sq,VQ hj]
 simp [Zb,hj]):p:=h
theorem qO {p:Prop} (h:p:=by
 have h3:=U5.o.trans (UE.o.mono Zo (fun _ _ h=>h))
 exact (h3.alloc Zo _).grown HG.o VB (Yw Yu.o)):p:=h
theorem aG {p:Prop} (h:p:=by
 exfalso
 have Xh:(X0 b).1 ≠ .X6 l:=by
  unfold X0
  split
  ·exact fun h=>by cases h
  split
  ·exact fun h=>by cases h
  split
  ·exact fun h=>by cases h
  split
  ·exact fun h=>by cases h
  ·exact fun h=>by cases h
 exact Xh hv):p:=h
theorem kM {p:Prop} (h:p:=by
 show _=_
 rw [qu.o,Z6]
 rw [List.any_eq_true]
 rintro ⟨x,hx,OY⟩
 obtain ⟨j,hj,rfl⟩:=List.getElem_of_mem hx
 have:=Le.o j Zo
 rw [Sq,VQ hj] at this
 simp at OY this;omega):p:=h
theorem kN {p:Prop} (h:p:=by
 go_wp2
 go_roundw
 case rel=>exact ⟨k+1,Zo,Zn,U5.o.alloc Vr _,by rw [HF.o];exact Yg.o.below (Z' _ _),by rw [HF.o];exact Yu.o.alloc _⟩
 case measure=>simp [intOf];omega):p:=h
theorem kO {p:Prop} (h:p:=by
 have HF:Hid (Ep=0):=by
  show _=_
  rw [eD.o,Z6]
  rw [List.any_eq_true]
  rintro ⟨j,hj,cJ⟩
  rw [Le.o j (by simp at hj;omega)] at cJ
  cases cJ
 go_wp2
 go_ret
 exact ⟨Y5 HF.o.symm,XS⟩):p:=h
theorem kP {p:Prop} (h:p:=by
 rw [show get (b.take (4+4*long b)) 4 4=get b 4 4 from D8 (p:=4) (q:=4) Zo hb Zo Zo]
 exact QV (b:=b) (m:=4*long b) (p:=0) (q:=4) Zo hb Zo Zo):p:=h
theorem kQ {p:Prop} (h:p:=by
 rw [show get (b.take (4+4*long b)) 8 4=get b 8 4 from D8 (p:=8) (q:=4) Zo hb Zo Zo]
 exact QV (b:=b) (m:=4*long b) (p:=4) (q:=4) Zo hb Zo Zo):p:=h
theorem kR {p:Prop} (h:p:=by
 obtain ⟨mj,oq⟩:=hcut
 obtain ⟨va,vc,rfl,-,-⟩:=id mj
 go_wp2
 go_ret
 rw [uf.o]
 exact ⟨⟨_,rfl,mj⟩,AU.o.below oq,wW.o.trans ((Fr.Z9 _ oq).mono Ih (fun _ _ h=>h))⟩):p:=h
theorem kS {p:Prop} (h:p:=by
 go_enter Tryz.func83,Tryz.ntmps83
 go_wp2_with fail
 refine (CP.o _).mono ?_
 rintro e w1 ⟨rfl,rfl⟩
 go_wp2_with fail
 refine (CN.o _).mono ?_
 exact bf):p:=h
theorem kT {p:Prop} (h:p:=by
 have ux:k=L.length:=by omega
 have hT:L.take k=L:=by rw [ux,qX]
 rw [hT] at Yu
 clear hT Z7
 go_wp2
 go_ret
 rw [HM0.o]
 exact ⟨⟨_,rfl,Row.ZV Yu.o⟩,Yg.o,U5.o⟩):p:=h
theorem kU {p:Prop} (h:p:=by
 (try dsimp only)
 with_reducible first|exact OU.o _ (ZA (YG _ _).drew (ZB _) _)|exact OU.o _ (Z0 (ZA (YG _ _).drew (ZB _) _) (ZB _) _)):p:=h
theorem kV {p:Prop} (h:p:=by
 go_enter Tryz.func171,Tryz.ntmps171
 go_wp2_with (go_at_call 155;refine CG.o.mono ?_;rintro e w' ⟨rfl,rfl⟩)
 go_ret2
 exact ⟨rfl,rfl⟩):p:=h
theorem kX {p:Prop} (h:p:=by
 clear Z7
 go_enter Tryz.func122,Tryz.ntmps122
 go_wp2
 go_ret
 exact ⟨Y5 HF.o.symm,Z' _ _⟩):p:=h
theorem aH {p:Prop} (h:p:=by
 obtain ⟨g,off,cap,h1,_,_,_,h5⟩:=Ez Zf 2 (fun _=>rfl) Zo h hl
 exact ⟨g,off,(slice_inj h1).1,fun i x hx=>⟨h5 i x hx 0 Zo,h5 i x hx 1 Zo⟩⟩):p:=h
theorem aI {p:Prop} (h:p:=by
 rw [←g2]
 show Xy (Xy (opens R) ⟨1,o.peer,o.source,o.Zu,0⟩) t2=_
 unfold Xy
 rw [Z6 (show ¬t2.kind=1 by omega),Z6 (show ¬t2.kind=2 by omega),ZX rfl]
 rfl):p:=h
theorem kY {p:Prop} (h:p:=by
 go_enter Tryz.func160,Tryz.ntmps160
 go_wp2_with fail
 refine CO.o.mono ?_
 rintro e w' ⟨rfl,rfl⟩
 go_wp2_with fail
 go_ret3
 exact ⟨rfl,rfl⟩):p:=h
theorem kZ {p:Prop} (h:p:=by
 exact VR (v:= .tuple (Qn (Qk 0 0 0) 2)) (by simp [results,Tryz.results152,go_sem]) rfl ⟨rfl,Z' _ _⟩):p:=h
theorem ld {p:Prop} (h:p:=by
 exact VR (v:= .tuple (Qn (Qk 0 0 0) 1)) (by simp [results,Tryz.results152,go_sem]) rfl ⟨rfl,Z' _ _⟩):p:=h
theorem lf {p:Prop} (h:p:=by
 have hn:(i:Int)<n:=by omega
 have h0:(0:Int)≤i:=by omega
 simp [Instr.index,asIntOf,Sem.run_bind,run_underlying h w,h0,hi,part,om,sizeOf,typeInfo,hq,uy,hy]):p:=h
theorem lg {p:Prop} (h:p:=by
 go_enter Tryz.func141,Tryz.ntmps141
 go_wp2
 go_ret
 exact ⟨⟨_,rfl,by rw [HF.o];exact Row.nil _ _⟩,YG _ _⟩):p:=h
theorem lh {p:Prop} (h:p:=by
 rw [Z6 e]
 have:(decide (m=n) && decide (q=p))=false:=by
  rw [Ls];intro h;simp only [Ui,NB] at h;exact e h
 rw [this];rfl):p:=h
theorem lj {p:Prop} (h:p:=by
 have hT:L.take k=L:=I8 Zo
 rw [hT] at Yu
 clear hT Z7
 go_wp2
 go_ret
 rw [mQ.o]
 exact ⟨⟨_,rfl,Row.ZV Yu.o⟩,VW.o,U5.o⟩):p:=h
theorem ll {p:Prop} (h:p:=by
 refine ⟨h.YI.setCell Zi _,?_,?_⟩
 ·have:=h.Lv
  simp [World.setCell,Array.getElem?_modify,this]
 ·have:=h.Y8
  simp [World.setCell,Array.getElem?_modify,this]):p:=h
theorem ln {p:Prop} (h:p:=by
 clear Z7
 go_enter Tryz.func134,Tryz.ntmps134
 go_wp2
 go_ret
 exact ⟨Y5 HF.o.symm,Z' _ _⟩):p:=h
end Go.Proofs
