/- Part of a proof. -/
import Derived.Test.YtpdjhlcbcomdkaaGreatDoorR01
import Derived.Test.YtpdjhlcbcomdkaaGreatDoorR0Y
set_option linter.unusedVariables false
set_option linter.unusedSimpArgs false
set_option maxRecDepth 100000
set_option maxHeartbeats 16000000
open Go Go.Q
namespace Go.Proofs
theorem bH {p:Prop} (h:p:=by
 have TZ:=H1.o.z;have UF:=H1.o.Y8;go_wp2_with (first|(go_at_call 116;refine CW.o.mono ?_;rintro e w' ⟨rfl,rfl⟩)|(with_reducible refine Zj 173 (.tmp 5) rfl ?_;refine Zf rfl 173 (.tmp 5) rfl (w.heap.size+1) rfl 173 YZ (0,0) _ UF Tryz.underlying173 rfl ZB ?_)|(with_reducible refine ZU 173 (.tmp 2) (.tmp 74) rfl ?_;refine ZV rfl 173 (.tmp 2) (.tmp 74) rfl rfl w.heap.size YZ rfl rfl 173 YZ TZ ZB ZB ZB ?_))
 refine VD (v:= .tuple (Qs YZ 0 1)) ?_ rfl ?_
 ·exact bB
 exact UD.o _ 1 TZ H1.o.Zg VA.o):p:=h
theorem Yx2 {p:Prop} (h:p:=by
 clear Ky IB Uw;have TZ:=H1.o.z;go_wp2_with (first|(go_at_call 116;refine CW.o.mono ?_;rintro e w' ⟨rfl,rfl⟩)|(go_at_call 117;refine CI.o.mono ?_;rintro e w4 ⟨⟨a,rfl,hit⟩,Oj⟩;obtain ⟨xa,xc,ya,yc,za,zc,ha,Mx⟩:=K_ hit;subst ha;have ym:=Zh Mx;have uP:=(Oj.block w.heap.size (ZW TZ)).trans TZ;have Ux:=Zh (H1.o.Zg.trans (Oj.mono H1.o.Zg.size));clear hit Mx Oj)|(with_reducible refine ZU 173 (.tmp 2) (.tmp 88) rfl ?_;refine ZV rfl 173 (.tmp 2) (.tmp 88) rfl rfl w.heap.size (Qe i.kind i.YE i.Ie i.time i.WY i.octets xa i.blocks.length xc ya i.gone.length yc i.X5 za i.XA.length zc) rfl rfl 173 YZ uP ZB ZB ZB ?_))
 refine VD (v:= .tuple (Qs (Qe i.kind i.YE i.Ie i.time i.WY i.octets xa i.blocks.length xc ya i.gone.length yc i.X5 za i.XA.length zc) (Z:Int) 0)) ?_ rfl ?_
 ·exact Yt11
 exact ⟨⟨_,by rw [VA.o],by rw [VA.o];exact Ns (ym.o.setRow uP _)⟩,Z3 Ux.o (Zw _) _⟩):p:=h
theorem Yx3 {p:Prop} (h:p:=by
 have VA:Hid (X=((XT,0),2)):=by show _=_;rw [lg.o,ZR TR]
 have dz:decide ((b.length:Int)<(Z:Int))=true:=Wi Zo;have TZ:=H1.o.z;have UF:=H1.o.Y8;go_wp2_with (first|(go_at_call 116;refine CW.o.mono ?_;rintro e w' ⟨rfl,rfl⟩)|(with_reducible refine Zj 173 (.tmp 5) rfl ?_;refine Zf rfl 173 (.tmp 5) rfl (w.heap.size+1) rfl 173 YZ (0,0) _ UF Tryz.underlying173 rfl ZB ?_)|(with_reducible refine ZU 173 (.tmp 2) (.tmp 82) rfl ?_;refine ZV rfl 173 (.tmp 2) (.tmp 82) rfl rfl w.heap.size YZ rfl rfl 173 YZ TZ ZB ZB ZB ?_))
 refine VD (v:= .tuple (Qs YZ 0 2)) ?_ rfl ?_
 ·exact bB
 exact UD.o _ 2 TZ H1.o.Zg VA.o):p:=h
theorem Yx4 {p:Prop} (h:p:=by
 rw [cX];go_upto_region 10 with (go_at_call 93;refine CI.o.mono ?_;rintro e w2 ⟨⟨a,rfl,hit⟩,Y7⟩;obtain ⟨xa,xc,ya,yc,za,zc,ha,Mx⟩:=K_ hit;subst ha;have ym:=Zh Mx;have X8:=Zh Y7;clear hit Mx Y7)
 clear CI;have Im:Hid (Below w w (w2.alloc (.cells (Qe i.kind i.YE i.Ie i.time i.WY i.octets xa i.blocks.length xc ya i.gone.length yc i.X5 za i.XA.length zc) 173))):=ZF (Sy.o.trans (X8.o.mono TR)) (Zw _) _;by_cases RU:er=0
 rotate_left
 ·have DI:Hid (X=([],er)):=by show _=_;rw [HX.o,OH.o,HE.o RU]
  have bl:(er != 0)=true:=by rw [RQ];exact RU
  clear HX OH HE;go_wp2_with fail
  go_ret2
  exact ⟨⟨.slice none 0 0,by rw [DI.o];rfl,by rw [DI.o];exact YI.nil _⟩,Im.o⟩
 subst RU;have hnr:n≤r.length:=iF.o BK;obtain ⟨a2,Uw,-,ZY⟩:=SP (P:=Tryz.prog) VF ra r.length rc n hnr gZ;have U':=Zh ZY;have Ee:=Z8 w2 (.cells (Qe i.kind i.YE i.Ie i.time i.WY i.octets xa i.blocks.length xc ya i.gone.length yc i.X5 za i.XA.length zc) 173);have H9:=X8.o.size;have FT:Hid (Below w w ((w2.alloc (.cells (Qe i.kind i.YE i.Ie i.time i.WY i.octets xa i.blocks.length xc ya i.gone.length yc i.X5 za i.XA.length zc) 173)).alloc (.cells (Qe i.kind i.YE i.Ie i.time i.WY i.octets xa i.blocks.length xc ya i.gone.length yc i.X5 za i.XA.length zc) 173))):=ZF Im.o (Zw _) _;have Cj:Below w2 w2 ((w2.alloc (.cells (Qe i.kind i.YE i.Ie i.time i.WY i.octets xa i.blocks.length xc ya i.gone.length yc i.X5 za i.XA.length zc) 173)).alloc (.cells (Qe i.kind i.YE i.Ie i.time i.WY i.octets xa i.blocks.length xc ya i.gone.length yc i.X5 za i.XA.length zc) 173)):=ZF (Z' w2 _) (Zw _) _;have NZ:=Zh (Yw (Yw Yh.o X8.o) Cj)
 have ub:Hid (∀ x∈L++[⟨i,.slice xa i.blocks.length xc,.slice ya i.gone.length yc,.slice za i.XA.length zc⟩],Uf ((w2.alloc (.cells (Qe i.kind i.YE i.Ie i.time i.WY i.octets xa i.blocks.length xc ya i.gone.length yc i.X5 za i.XA.length zc) 173)).alloc (.cells (Qe i.kind i.YE i.Ie i.time i.WY i.octets xa i.blocks.length xc ya i.gone.length yc i.X5 za i.XA.length zc) 173)) x):=fun x hx=>by
  rcases DN.1 hx with h|h
  ·exact ((FW.o x h).below X8.o).below Cj
  ·rw [J1] at h;subst h;exact ym.o.below Cj
 have yr:=Vz (w2.alloc (.cells (Qe i.kind i.YE i.Ie i.time i.WY i.octets xa i.blocks.length xc ya i.gone.length yc i.X5 za i.XA.length zc) 173)) 173 1 (Qe i.kind i.YE i.Ie i.time i.WY i.octets xa i.blocks.length xc ya i.gone.length yc i.X5 za i.XA.length zc) Zd;rw [show (w2.alloc _).heap.size=w2.heap.size+1 by show (w2.heap.push _).size=_;rw [OI]] at yr;replace yr:=Zh yr
 have O_:∀ u∈((Qe i.kind i.YE i.Ie i.time i.WY i.octets xa i.blocks.length xc ya i.gone.length yc i.X5 za i.XA.length zc):List Value),u.oneCell'=true:=by
  intro u hu;simp only [KN,List.mem_nil_iff,or_false] at hu;rcases hu with rfl|rfl|rfl|rfl|rfl|rfl|rfl|rfl|rfl|rfl <;> rfl
 have HONE:=Zh O_;clear Cj ZY O_;go_wp2_with (first|(with_reducible refine Zj 173 (.tmp 6) rfl ?_;refine Zf rfl 173 (.tmp 6) rfl w2.heap.size rfl 173 (Qe i.kind i.YE i.Ie i.time i.WY i.octets xa i.blocks.length xc ya i.gone.length yc i.X5 za i.XA.length zc) (0,0) _ Ee Tryz.underlying173 rfl ZB ?_)|(at_builtin;refine YV rfl (.tmp 30) (.tmp 32) 82 rfl w.heap.size H7 (.slice oa j oc) j (L.flatMap YX) rfl NZ.o _ 1 (Qe i.kind i.YE i.Ie i.time i.WY i.octets xa i.blocks.length xc ya i.gone.length yc i.X5 za i.XA.length zc) rfl yr.o rfl HONE.o Zo Zo FT.o.size (fun v' w4 HO4 HG4=>?_)))
 have HBW4:Hid (Below w w w4):=((Fr.Z7 PN FT.o).grown HG4.o FT.o.size (YL NZ.o)).below;obtain ⟨na,nc,NK,-⟩:=Row.Z6 HO4.o;subst NK;go_roundw
 case rel=>
  refine ⟨j+1,r.drop n,a2,rc-n,L++[⟨i,.slice xa i.blocks.length xc,.slice ya i.gone.length yc,.slice za i.XA.length zc⟩],Zo,by rw [UE,HLJ.o];rfl,by rw [Rg];omega,by rw [Rg],rfl,by rw [WI Zo],HBW4.o,?_,?_,?_,?_,?_⟩
  ·have h:=HO4.o;rw [OQ];exact h
  ·intro x hx;exact (ub.o x hx).yz (XY HG4.o) (Za NZ.o Zd) (Za NZ.o Zd) (Za NZ.o Zd)
  ·intro w'' hb;have h:=U'.o w'' (RD r) (by rw [Xh];omega) (HR.o w'' hb);show XR w'' _ (r.drop n).length (RD (r.drop n));rw [Rg,←QN];simpa using h
  ·intro h
   have hl:¬r.length-n=0:=by
    rcases h with h|h
    ·omega
    ·rw [Rg] at h;omega
   rw [OH.o,HM.o BK hl,show 8-(j+1)=q by omega,NR];rfl
  ·intro h
   have hl:r.length-n=0:=by
    rw [Rg] at h;omega
   rw [OH.o,FX.o BK hl,NR];rfl
 case measure=>simp [pA];omega):p:=h
theorem Yx6 {p:Prop} (h:p:=by
 refine hK.out _ _ ?_ (fun _=>?_)
 ·exact Yt5
 clear hK K;try simp only [Z_.pt]
 refine wpAnyH_ready (rs:=[12]) ZB Zi ?_;refine AllReadyH.cons (i:=12) rfl (fun K hK=>?_) ?_
 ·(first|(go_split_ands;refine Zp Zr (.const (.slice none 0 0)) (.tmp 23) 47 Zr w1.heap.size TQ (.slice none 0 0) 0 [] Zr (TY _ _ _ _) (.slice a T.ZA.length cap) T.ZA.length (T.ZA.flatMap Yx) Zr ?_ Bv.o (Pm _) Zo Zo ?_ ?_;(exact Sz.o _ Wd);(exact Below.size Wd);intro v1 w2 T9 OH;have Uk:=XD OH.o;have Yq:Below w1 w1 w2:=Heap.Below.call Wd (Zw _) Uk;obtain ⟨k2,k3,k4,k5⟩:=Zz.o _ Yq)|(go_split_ands;refine Zp Zr (.tmp 24) (.tmp 30) 47 Zr w1.heap.size TQ v1 (0+T.ZA.length) ([]++T.ZA.flatMap Yx) Zr ?_ _ 1 (Q3 p (str nm)) Zr ?_ Zr (Li ⟨p,nm⟩) Zo Zo ?_ ?_;(repeat (first|with_reducible exact T9.o|with_reducible refine Xd ?_|with_reducible refine World.ownsRow.alloc ?_ _));(repeat (first|((with_reducible refine Tf _ _ 1 (Q3 p (str nm)) Zd _ ?_);rfl)|with_reducible refine Row.drew ?_|with_reducible refine Row.below ?_ Uk));(exact Below.size Wd);intro v2 w3 Px KF;have Wn:Below w1 w1 w3:=Below.grown Wd KF.o (Below.size Wd) (YL T9.o);obtain ⟨k6,k7,k8,k9⟩:=Zz.o _ Wn;obtain ⟨va,vc,hv⟩:=WE Px.o;subst hv))
  refine hK.out _ _ ?_ (fun _=>?_)
  ·exact Yt5
  clear hK K;try simp only [Z_.pt]
  refine YA 13 (h:=YA 14 (h:=?_));refine wpAnyH_ready (rs:=[15]) ZB Zi ?_;refine AllReadyH.cons (i:=15) rfl (fun K hK=>?_) ?_
  ·go_simp;refine hK.out _ _ ?_ (fun _=>?_)
   ·exact Yt5
   clear hK K;try simp only [Z_.pt]
   refine wpAnyH_done ZB ?_ _;refine RA ?_;go_wp2
   go_ret2
   obtain ⟨Fh,gI⟩:=mA.o _ Wn;have ZY:=Row.Z6 Px.o;rw [J2,QD] at ZY;have z_:=Fh.AW (l:=T.ZA++[⟨p,nm⟩]) Yo17;exact Vi HF (Row.nil _ _) z_ (gI.setAt _ _)
  exact AllReadyH.nil
 exact AllReadyH.nil):p:=h
theorem Yx7 {p:Prop} (h:p:=by
 refine hK.out _ _ ?_ (fun _=>?_)
 ·exact Yt5
 clear hK K;try simp only [Z_.pt]
 refine wpAnyH_ready (rs:=[8]) ZB Zi ?_;refine AllReadyH.cons (i:=8) rfl (fun K hK=>?_) ?_
 ·(first|(go_split_ands;refine Zp Zr (.const (.slice none 0 0)) (.tmp 79) 49 Zr V.heap.size Uh (.slice none 0 0) 0 [] Zr (TY _ _ _ _) (.slice a T.Z0.length cap) T.Z0.length (T.Z0.flatMap Zt) Zr ?_ Bv.o (Tw _) Zo Zo ?_ ?_;(exact Sz.o _ Wd);(exact Below.size Wd);intro v1 w2 T9 OH;have Uk:=XD OH.o;have Yq:Below V V w2:=Heap.Below.call Wd (Zw _) Uk;have r2:Below w2 w2 w2:=YJ _ _;obtain ⟨k2,k3⟩:=Zz.o _ Yq)|(go_split_ands;refine Zp Zr (.tmp 80) (.tmp 82) 49 Zr V.heap.size Uh v1 (0+T.Z0.length) ([]++T.Z0.flatMap Zt) Zr ?_ _ 1 (Ql p n la false) Zr ?_ Zr (LC ⟨p,n,la,false⟩) Zo Zo ?_ ?_;(exact Zx T9.o Wd);(repeat (first|((with_reducible refine Tf _ _ 1 (Ql p n la false) Zd _ ?_);rfl)|with_reducible refine Row.drew ?_|with_reducible refine Row.below ?_ Uk));(exact Below.size Wd);intro v2 w3 Px KF;have Wn:Below V V w3:=Below.grown Wd KF.o (Below.size Wd) (YL T9.o);obtain ⟨k6,k7⟩:=Zz.o _ Wn;obtain ⟨va,vc,hv⟩:=WE Px.o;subst hv))
  refine hK.out _ _ ?_ (fun _=>?_)
  ·exact Yt5
  clear hK K;try simp only [Z_.pt]
  refine YA 9 (h:=YA 10 (h:=?_));refine wpAnyH_ready (rs:=[11]) ZB Zi ?_;refine AllReadyH.cons (i:=11) rfl (fun K hK=>?_) ?_
  ·go_simp;refine hK.out _ _ ?_ (fun _=>?_)
   ·exact Yt5
   clear hK K;try simp only [Z_.pt]
   refine wpAnyH_done ZB ?_ _;refine RA ?_;go_wp2_with fail
   go_meet;obtain ⟨Fh,gI⟩:=mA.o _ Wn;have ZY:=Row.Z6 Px.o;rw [J2,QD] at ZY;have z_:=Fh.Lu (l:=T.Z0++[⟨p,n,la,false⟩]) Yo14;exact ⟨z_,gI.setAt _ _,(Fr.Z7 _ Wn).setAt _ _⟩
  exact AllReadyH.nil
 exact AllReadyH.nil):p:=h
theorem Yx8 {p:Prop} (h:p:=by
 clear hK K;try simp only [Z_.pt]
 refine YP 31 (h:=YP 32 (h:=?_));refine YR 33 (h:=fun K hK=>?_);go_simp;have HO:=Zh (HO.o.eD 5 (.slice xa (ws.length+1) xc) (.slice xa (ws.length+1) xc) (.slice ca cs.length cc) (.slice qa qs.length qc) rfl);refine Z_.Yk hK _ _ ZB ?_;clear hK K;try simp only [Z_.pt]
 refine YP 34 (h:=YP 35 (h:=?_));refine YR 36 (h:=fun K hK=>?_);go_simp;have HO:=Zh (HO.o.eD 6 (.slice ya (cs.length+1) yc) (.slice xa (ws.length+1) xc) (.slice ya (cs.length+1) yc) (.slice qa qs.length qc) rfl);refine Z_.Yk hK _ _ ZB ?_;clear hK K;try simp only [Z_.pt]
 refine YP 37 (h:=YP 38 (h:=?_));refine YR 39 (h:=fun K hK=>?_);go_simp;have HO:=Zh (HO.o.eD 7 (.slice za (qs.length+1) zc) (.slice xa (ws.length+1) xc) (.slice ya (cs.length+1) yc) (.slice za (qs.length+1) zc) rfl);refine Z_.Yk hK _ _ ZB ?_;clear hK K;try simp only [Z_.pt]
 refine Z_.YC ZB ?_ _;refine RA ?_;go_wp2_with fail
 go_meet
 exact ⟨_,_,_,HO.o⟩):p:=h
theorem Yx10 {p:Prop} (h:p:=by
 go_upto_region 11 with (go_at_call 125;refine HC.o.mono ?_;rintro e w2 ⟨⟨a0,rfl,⟨cv,ev,pv,gz,q1,q2,q3⟩⟩,Y7⟩;obtain ⟨ca,cc,FM,-⟩:=id q1;obtain ⟨ea,ec,Ma,-⟩:=id q2;obtain ⟨pa,pc,Md,-⟩:=id q3;subst FM;subst Ma;subst Md;dsimp only [G6] at gz;subst gz;have HR:Hid (Vy w2 P (.slice ca P.VN.length cc) (.slice ea P.ext.length ec) (.slice pa P.ZG.length pc)):=⟨q1,q2,q3⟩;have X8:=Zh Y7;clear q1 q2 q3 Y7)
 clear HC;have Dz:Hid (Below w w (w2.alloc (.cells (Qb P.XP P.type P.seq P.time P.YE ca P.VN.length cc P.XO P.Yl ea P.ext.length ec pa P.ZG.length pc P.pad) 79))):=ZF X8.o (Zw _) _;by_cases RU:er=0
 ·subst RU;have HD:Hid (∀ w1,Below w2 w2 w1→Calls Tryz.prog 126 #[.slice pa P.ZG.length pc] w1 fun e w'=>e = .returned (.tuple (Qo (Qd (Yy P.ZG).1.ZH (Yy P.ZG).1.key (Yy P.ZG).1.start (Yy P.ZG).1.frame) (Yy P.ZG).2))∧Below w1 w1 w'):=fun w1 h=>yF _ P.ZG w1 (HR.o.p.below h).r
  rw [Z4 Zi] at HX;generalize Yy P.ZG=D at *
  obtain ⟨d,de⟩:=D;dsimp only at HD HX;have H9:w2.heap.size<(w2.alloc (.cells (Qb P.XP P.type P.seq P.time P.YE ca P.VN.length cc P.XO P.Yl ea P.ext.length ec pa P.ZG.length pc P.pad) 79)).heap.size:=by show _<(w2.heap.push _).size;rw [OI];exact Nat.lt_succ_self _
  have ZY:=Z8 w2 (.cells (Qb P.XP P.type P.seq P.time P.YE ca P.VN.length cc P.XO P.Yl ea P.ext.length ec pa P.ZG.length pc P.pad) 79);have HRA:=Zh (HR.o.below (Z' w2 (.cells (Qb P.XP P.type P.seq P.time P.YE ca P.VN.length cc P.XO P.Yl ea P.ext.length ec pa P.ZG.length pc P.pad) 79)));go_upto_region 14 with (go_at_call 126;refine (HD.o _ (Z' _ _)).mono ?_;rintro e w3 ⟨rfl,VJ⟩;have Wc:=Zh VJ;have y0:=(VJ.block _ H9).trans ZY;have Cq:w2.heap.size<w3.heap.size:=OS H9 VJ.size;clear VJ)
  have yU:=Zh (HRA.o.below Wc.o);have RM:Hid (Below w w w3):=Dz.o.trans (Wc.o.mono Dz.o.size);have DB:Hid (Below w w (w3.alloc (.cells (Qd d.ZH d.key d.start d.frame) 81))):=ZF RM.o (Zw _) _;have MN:=Zh (yU.o.below (Z' w3 (.cells (Qd d.ZH d.key d.start d.frame) 81)));have y1:=((Z' w3 (.cells (Qd d.ZH d.key d.start d.frame) 81)).block _ Cq).trans y0;clear ZY HRA Wc HD;by_cases gG:de=0
  ·subst gG;rw [Z4 Zi] at HX;go_wp2_with (with_reducible refine Zj 79 (.tmp 6) rfl ?_;refine Zf rfl 79 (.tmp 6) rfl w2.heap.size rfl 79 (Qb P.XP P.type P.seq P.time P.YE ca P.VN.length cc P.XO P.Yl ea P.ext.length ec pa P.ZG.length pc P.pad) (0,0) _ y1 Tryz.underlying79 rfl ZB ?_)
   go_ret2
   exact ⟨⟨_,by rw [HX.o];rfl,by rw [HX.o];exact ⟨_,_,_,rfl,MN.o⟩⟩,DB.o⟩
  ·have bl:(de != 0)=true:=by rw [RQ];exact gG
   have bl2:(de == 0)=false:=by rw [WR];exact gG
   rw [ZR gG] at HX;go_wp2_with fail
   go_ret2
   exact ⟨⟨.nilIface,by rw [HX.o];rfl,by rw [HX.o];rfl⟩,DB.o⟩
 ·have bl:(er != 0)=true:=by rw [RQ];exact RU
  have bl2:(er == 0)=false:=by rw [WR];exact RU
  rw [ZR RU] at HX;go_wp2_with fail
  go_ret2
  exact ⟨⟨.nilIface,by rw [HX.o];rfl,by rw [HX.o];rfl⟩,Dz.o⟩):p:=h
theorem Yx11 {p:Prop} (h:p:=by
 have hT':=Zh hT;have HC:Hid (may s.data.toList=((rn s.data.toList).all (fun p=>Ig p.1) && decide (1≤(rn s.data.toList).length) && decide ((rn s.data.toList).length≤8))):=rfl;have HU:Hid (runes s.data.toList=if (rn s.data.toList).all good then ((rn s.data.toList).length:Int) else -1):=rfl;have CR:=Zh (xj s w hs hT);clear hT;by_cases hr:1≤runes s.data.toList∧runes s.data.toList≤8
 ·obtain ⟨dH,M0⟩:=hr
  have HL:Hid (((rn s.data.toList).length:Int)=runes s.data.toList):=by
   have:=HU.o;split at this
   ·exact this.symm
   ·omega
  have hlen:1≤(rn s.data.toList).length∧(rn s.data.toList).length≤8:=by have:=HL.o;omega
  have Hu:Hid (may s.data.toList=(rn s.data.toList).all (fun p=>Ig p.1)):=by
   show _=_;rw [HC.o];simp [hlen]
  generalize runes s.data.toList=q at *
  go_enter Tryz.func120,Tryz.ntmps120;go_wp2_with (go_at_call 148;refine CR.o.mono ?_;rintro e w1 ⟨rfl,YY⟩)
  go_loopw [4] (fun a w'=>∃ k:Nat,Below w w w'∧a = .int .i64 (cutAt s.data.toList k)∧k≤(rn s.data.toList).length∧Hid (((rn s.data.toList).take k).all (fun p=>Ig p.1)=true)) (fun a _=>s.size-(intOf a).toNat)
  case atStart=>exact ⟨0,YY,rfl,Tk _,rfl⟩
  case round=>
   obtain ⟨k,hb,rfl,hle,UO⟩:=hrel;by_cases hp:cutAt s.data.toList k<s.size
   ·have hwd:=Lib.decode_width_pos s _ hp;obtain ⟨h1,h2,h3,h4⟩:=Km s k hp
    have aj:cutAt s.data.toList k+(Utf8.decode s (cutAt s.data.toList k)).2≤s.size:=by
     have:=Ge s.data.toList (k+1);rw [←Lib.size_eq] at this;omega
    have hr0:(Utf8.decode s (cutAt s.data.toList k)).1≤1114111:=by rw [←decodeL_drop];exact decodeL_rune _
    have H2:=Zh h2;have H4:=Zh h4;clear h2 h4;have CD:=Zh (lN s (cutAt s.data.toList k) wr hp (Utf8Tabs_below hT'.o hb));generalize hd:Utf8.decode s (cutAt s.data.toList k)=d at *
    have HD:=Zh hd;clear hd;obtain ⟨r,wd⟩:=d;dsimp only at *
    have CO:Hid (∀ w,Calls Tryz.prog 150 #[.int .i32 r] w (fun e w'=>e = .returned (.bool (Ig r))∧w=w')):=by
     intro w;have:=mL (r:Int) w Zo Zo;rwa [Wz] at this
    by_cases ho:Ig r=true
    ·rw [ho] at CO;have HO:=Zh ho;clear ho;go_wp2_with (first|(go_at_call 149;refine CD.o.mono ?_;rintro e w' ⟨rfl,Y7⟩)|(go_at_call 150;refine (CO.o _).mono ?_;rintro e w' ⟨rfl,rfl⟩))
     go_roundw
     case rel=>exact ⟨k+1,hb.trans (Y7.mono hb.size),by rw [H2.o];go_num,Zo,KP UO.o H4.o HO.o⟩
     case measure=>simp [intOf];omega
    ·have ho:Ig r=false:=by simpa using ho
     rw [ho] at CO
     have HF:Hid (may s.data.toList=false):=by
      show _=_;rw [Hu.o];exact BO H4.o ho
     clear ho;go_wp2_with (first|(go_at_call 149;refine CD.o.mono ?_;rintro e w' ⟨rfl,Y7⟩)|(go_at_call 150;refine (CO.o _).mono ?_;rintro e w' ⟨rfl,rfl⟩))
     go_ret;exact ⟨Xw HF.o.symm,hb.trans (Y7.mono hb.size)⟩
   ·have hend:=Db s k hp
    have HF:Hid (may s.data.toList=true):=by
     show _=_;have e:(rn s.data.toList).length=k:=by omega
     have h:=UO.o;rw [←e,nv] at h;rw [Hu.o,h]
    go_wp2;go_ret;exact ⟨Xw HF.o.symm,hb⟩
 ·have HF:Hid (may s.data.toList=false):=by
   show _=_;rw [KM];intro hm;have hv:=Es hm;have hu:=HU.o;rw [ZR hv] at hu;unfold may at hm;simp at hm;omega
  generalize runes s.data.toList=q at *
  by_cases hq:q<1
  ·go_enter Tryz.func120,Tryz.ntmps120;go_wp2_with (go_at_call 148;refine CR.o.mono ?_;rintro e w1 ⟨rfl,YY⟩)
   go_ret;exact ⟨Xw HF.o.symm,YY⟩
  ·have wJ:8<q:=by omega
   clear hr;go_enter Tryz.func120,Tryz.ntmps120;go_wp2_with (go_at_call 148;refine CR.o.mono ?_;rintro e w1 ⟨rfl,YY⟩)
   go_ret
   exact ⟨Xw HF.o.symm,YY⟩):p:=h
theorem Yx12 {p:Prop} (h:p:=by
 have CM:=Zh (AB s w hs hT);have HK:Hid (key s.data.toList=if may s.data.toList then s.data.toList.map low else []):=rfl;have HL:Hid (s.data.toList.length=s.size):=(Lib.size_eq s).symm;clear hT;by_cases hm:may s.data.toList=true
 ·have HF:Hid (key s.data.toList=s.data.toList.map low):=by show _=_;rw [HK.o,ZR hm]
  rw [hm] at CM;clear hm;have hconv:∀ w,(convert 9 30 (.string s)).run Tryz.prog w=_:=fun w=>Go.Lib.run_convert_string_bytes w 9 30 5 s Tryz.underlying9 Tryz.underlying30 Tryz.underlying5
  go_enter Tryz.func121,Tryz.ntmps121;go_wp2_with (first|(go_at_call 120;refine CM.o.mono ?_;rintro e w1 ⟨rfl,hb⟩))
  have YY:=hb.trans ((zu w1 5 s).mono hb.size);have dH:=Lr w1 5 s;have hB:w.heap.size≤w1.heap.size:=hb.size;generalize grownCap w1 s.size 0 5=cap;generalize bytesWorld w1 5 s=wB at *
  generalize w1.heap.size=B at *
  clear hconv hb;go_loopw [13] (fun i w'=>∃ k:Nat,Below w w w'∧i = .int .i64 k∧k≤s.size∧MM w' B 0 ((s.data.toList.take k).map low++s.data.toList.drop k)) (fun i _=>s.size-(intOf i).toNat)
  case atStart=>exact ⟨0,YY,rfl,Tk _,by simpa using dH⟩
  case round=>
   obtain ⟨k,hb,rfl,hle,ZY⟩:=hrel;have HR:=Zh ZY;clear ZY dH
   have hML:((s.data.toList.take k).map low++s.data.toList.drop k).length=s.size:=by
    simp only [UE,TB,S4,Rg,HL.o];omega
   have qq:=Zh hML;clear hML;by_cases hk:k<s.size
   ·have hc:=(HR.o k (by rw [qq.o];exact hk)).1;have Kb:=(HR.o k (by rw [qq.o];exact hk)).2;rw [QD] at hc Kb;rw [Er _ _ (by rw [HL.o];exact hk)] at hc;have HS:=Zh (wX s.data.toList k (by rw [HL.o];exact hk));have hx:=UInt8.toNat_lt (s.data.toList.getD k 0)
    have HW:∀ x:UInt8,MM (wr.setCell ⟨B,k,none⟩ (.int .u8 x.toNat)) B 0 (((s.data.toList.take k).map low++s.data.toList.drop k).set k x):=by
     intro x;have:=kP HR.o (i:=k) x
     rwa [QD] at this
    have HW:=Zh HW;generalize qO:s.data.toList.getD k 0=x at *
    have HX:=Zh qO;clear qO;have HU:=Zh (ej x);have HI:=Zh (ei x);by_cases c1:65≤x.toNat
    ·by_cases c2:x.toNat≤90
     ·have e:Hid (Value.int .u8 (x.toNat+32:Nat) = .int .u8 (low x).toNat):=by show _=_;rw [HU.o c1 c2]
      go_wp2;go_roundw
      case rel=>
       refine ⟨k+1,hb.setCell Ug _,Zn,Zo,?_⟩;have:=HW.o (low x);rw [HS.o,HU.o c1 c2] at this;simpa using this
      case measure=>simp [intOf];omega
     ·exact Yt12
    ·exact Yt12
   ·have hk:k=s.size:=by omega
    have ZY:=HR.o;subst hk;rw [←HL.o,nv,List.drop_length,um] at ZY;have FM:=FA (P:=Tryz.prog) (c:=cap) 30 9 5 ZY Tryz.underlying30 Tryz.underlying5 Tryz.underlying9;rw [TB,HL.o] at FM;clear ZY HR;go_wp2;go_ret;exact ⟨Ii (by rw [HF.o]),hb⟩
 ·have hm:may s.data.toList=false:=by simpa using hm
  have HF:Hid (key s.data.toList=[]):=by show _=_;rw [HK.o,hm];rfl
  rw [hm] at CM;clear hm;go_enter Tryz.func121,Tryz.ntmps121;go_wp2_with (first|(go_at_call 120;refine CM.o.mono ?_;rintro e w1 ⟨rfl,hb⟩))
  go_ret
  exact ⟨Ii (by rw [HF.o];rfl),hb⟩):p:=h
theorem Yx13 {p:Prop} (h:p:=by
 have HR:=Zh (HR.o.far (XY qU.o) HFA.o);have yT:=Zh (Row.fr yT.o (XY qU.o) (Zw _) (Za HC.o.XC Zd));have R6:Hid (Below w w w6):=((Fr.Z7 PN R6.o).grown qU.o R6.o.size (YL HC.o.XC)).below;have HC:=Zh (HC.o.D7 qU.o kS.o);refine Z_.Zb hK _ _ ?_ (fun _=>?_)
 ·(try dsimp only)
  exact Zz.o _ _ HC.o.Y8 HR.o.tk
 clear hK K;try simp only [Z_.pt]
 refine YR 17 (h:=fun K hK=>?_);refine Zp Zr (.tmp 41) (.tmp 44) 114 Zr w.heap.size KS mv M.length (M.flatMap Xo) Zr HC.o.Ld _ 1 ([(⟨T.XW,T.WJ,.slice ca T.XW.VN.length cc,.slice ea T.XW.ext.length ec,.slice pa T.XW.ZG.length pc⟩:TP)].flatMap Xo) Zr yT.o rfl Et (by rw [qq.o];omega) (by rw [qq.o];omega) ?_ ?_
 ·exact R6.o.size
 intro v17 w7 aY Br;have FY:Hid (w7.ownsRow w 97 15 v17 (M++[(⟨T.XW,T.WJ,.slice ca T.XW.VN.length cc,.slice ea T.XW.ext.length ec,.slice pa T.XW.ZG.length pc⟩:TP)]).length ((M++[(⟨T.XW,T.WJ,.slice ca T.XW.VN.length cc,.slice ea T.XW.ext.length ec,.slice pa T.XW.ZG.length pc⟩:TP)]).flatMap Xo)):=(by have h:=aY.o;rw [UE,OQ];exact h);obtain ⟨ma,mc,oF,-⟩:=Row.Z6 FY.o;rw [show (M++[(⟨T.XW,T.WJ,.slice ca T.XW.VN.length cc,.slice ea T.XW.ext.length ec,.slice pa T.XW.ZG.length pc⟩:TP)]).length=j+1 by rw [UE,qq.o];rfl] at oF;subst oF;have HEA:Hid (∀ x∈M++[(⟨T.XW,T.WJ,.slice ca T.XW.VN.length cc,.slice ea T.XW.ext.length ec,.slice pa T.XW.ZG.length pc⟩:TP)],Vy w7 x.p x.cv x.ev x.pv):=fun x hx=>Yo12
 have HFM:Hid (yl w6 (fun i=>mv.ownBlock=some i)):=fun i hi=>(by obtain ⟨cu,hc⟩:=Wo HC.o.Ld i hi;exact ⟨cu,_,_,hc,Wh (Wh (Ws rfl))⟩)
 have HR:=Zh (HR.o.far (XY Br.o) HFM.o);have R6:Hid (Below w w w7):=((Fr.Z7 PN R6.o).grown Br.o R6.o.size (YL HC.o.Ld)).below;have HC:=Zh (HC.o.gh Br.o FY.o HEA.o);obtain ⟨b0,b1,b2,b3,b4⟩:=HC.o.cells;have b41:=b4 1;have b42:=b4 2;refine Z_.Zb hK _ _ ?_ (fun _=>?_)
 ·(try dsimp only)
  exact Zz.o _ _ HC.o.Y8 HR.o.tk
 clear hK K;try simp only [Z_.pt]
 refine YP 18 (h:=YP 19 (h:=?_));refine YR 20 (h:=fun K hK=>?_);go_simp;have aU:Hid (yl w7 (· = w.heap.size)):=fun i hi=>iW
 have HR:=Zh (HR.o.far (w':=w7.setCell ⟨w,1,none⟩ (.slice na (j+1) nc)) ((Fr.refl _ _ _).setAt _ _) aU.o);have R6:Hid (Below w w (w7.setCell ⟨w,1,none⟩ (.slice na (j+1) nc))):=((Fr.Z7 PN R6.o).setCell (p:=⟨w,1,none⟩) (Ws (Zw _)) _).below;have HC:=Zh (HC.o.Hd 1 (.slice na (j+1) nc));obtain ⟨d0,d1,d2,d3,d4⟩:=HC.o.cells;have d42:=d4 2;refine Z_.Yk hK _ _ ZB ?_;clear hK K;try simp only [Z_.pt]
 refine YP 21 (h:=YP 22 (h:=?_));refine YR 23 (h:=fun K hK=>?_);go_simp;have aU:Hid (yl (w7.setCell ⟨w,1,none⟩ (.slice na (j+1) nc)) (· = w.heap.size)):=fun i hi=>iW
 have HR:=Zh (HR.o.far (w':=(w7.setCell ⟨w,1,none⟩ (.slice na (j+1) nc)).setCell ⟨w,2,none⟩ (.slice ma (j+1) mc)) ((Fr.refl _ _ _).setAt _ _) aU.o);have R6:Hid (Below w w ((w7.setCell ⟨w,1,none⟩ (.slice na (j+1) nc)).setCell ⟨w,2,none⟩ (.slice ma (j+1) mc))):=((Fr.Z7 PN R6.o).setCell (p:=⟨w,2,none⟩) (Ws (Zw _)) _).below;have HC:=Zh (HC.o.Hd 2 (.slice ma (j+1) mc));refine Z_.Yk hK _ _ ZB ?_;clear hK K;try simp only [Z_.pt]
 refine Z_.YC ZB ?_ _;refine RA ?_;go_wp2_with fail
 go_meet
 exact ⟨na,nc,ma,mc,HC.o,HR.o,R6.o⟩):p:=h
theorem Yx14 {p:Prop} (h:p:=by
 have HR:Hid ((rn s.data.toList).length≤s.size):=by have:=Lq s.data.toList;rw [Lib.size_eq];exact this
 go_enter Tryz.func161,Tryz.ntmps161;go_wp2;go_loopw [3] (fun c w'=>∃ k:Nat,w'=w.iter s (cutAt s.data.toList k)∧c = .int .i64 k∧k≤(rn s.data.toList).length∧Hid (((rn s.data.toList).take k).all (fun p=>Ig p.1)=true)) (fun _ w'=>s.size-w'.iterPos w.heap.size)
 case atStart=>exact ⟨0,rfl,rfl,Tk _,rfl⟩
 case round=>
  obtain ⟨k,rfl,rfl,hle,UO⟩:=hrel;by_cases hp:cutAt s.data.toList k<s.size
  ·have hnx:∀ ty,(Instr.next (.pointer (some ⟨w,0,none⟩)) true ty).run Tryz.prog (w.iter s (cutAt s.data.toList k))=_:=fun ty=>run_next_any w s _ ty hp
   have hwd:=Lib.decode_width_pos s _ hp;obtain ⟨h1,h2,h3,h4⟩:=Km s k hp;have H2:=Zh h2;have H4:=Zh h4;clear h2 h4;have hks:k<s.size:=by omega
   generalize hd:Utf8.decode s (cutAt s.data.toList k)=d at *
   have HD:=Zh hd;clear hd;obtain ⟨r,wd⟩:=d;dsimp only at *
   by_cases NV:Ig r=true
   ·have HB:=Zh NV;have hb:=NV;unfold Ig at hb;simp only [UR,Bool.or_eq_true,Pz,Bool.not_eq_true',WR] at hb;obtain ⟨⟨b1,b2⟩,b3⟩:=hb;clear NV;have t1:((r:Int) == 65533)=false:=by rw [WR];omega
    clear b3;by_cases b4:r<127
    ·clear b2;go_wp2;go_roundw
     case rel=>exact ⟨k+1,by rw [H2.o],Zn,Zo,KP UO.o H4.o HB.o⟩
     case measure=>simp;omega
    ·have b5:159<r:=by omega
     clear b2;go_wp2;go_roundw
     case rel=>exact ⟨k+1,by rw [H2.o],Zn,Zo,KP UO.o H4.o HB.o⟩
     case measure=>simp;omega
   ·have HF:Hid (may s.data.toList=false):=by
     show _=_;unfold may;rw [BO H4.o (by simpa using NV)];rfl
    have HC:Hid (r<33∨(127≤r∧r≤159)∨r=65533):=by
     show _∨_;unfold Ig at NV;simp at NV;omega
    clear NV;by_cases b1:r<33
    ·go_wp2;go_ret;exact ⟨Xw HF.o.symm,SF _ _ _⟩
    by_cases b2:127≤r∧r≤159
    ·obtain ⟨b2,b3⟩:=b2;go_wp2;go_ret;exact ⟨Xw HF.o.symm,SF _ _ _⟩
    ·have b3:r=65533:=by have:=HC.o;omega
     subst b3;go_wp2;go_ret;exact ⟨Xw HF.o.symm,SF _ _ _⟩
  ·have hnx:∀ ty,(Instr.next (.pointer (some ⟨w,0,none⟩)) true ty).run Tryz.prog (w.iter s (cutAt s.data.toList k))=_:=fun ty=>run_next_end w s _ ty hp
   have hend:=Db s k hp
   have HM:Hid (may s.data.toList=(decide (1≤k) && decide (k≤8))):=by
    show _=_;have e:(rn s.data.toList).length=k:=by omega
    have h:=UO.o;rw [←e,nv] at h;unfold may;rw [h,e,Bool.true_and]
   by_cases c1:1≤k
   ·by_cases c2:k≤8
    ·go_wp2;go_ret;exact ⟨Xw (by rw [HM.o];first|(simp [c1,c2];done)|(simp [c1,c2];omega)),SF _ _ _⟩
    ·go_wp2;go_ret;exact ⟨Xw (by rw [HM.o];first|(simp [c1,c2];done)|(simp [c1,c2];omega)),SF _ _ _⟩
   ·go_wp2;go_ret
    exact ⟨Xw (by rw [HM.o];first|(simp [c1];done)|(simp [c1];omega)),SF _ _ _⟩):p:=h
theorem rO {p:Prop} (h:p:=by
 have h:=Z8 (w.alloc (.cells YZ 173)) (.cells YZ 173);rw [show (w.alloc (.cells YZ 173)).heap.size=w.heap.size+1 by show (w.heap.push _).size=_;rw [OI]] at h
 exact h):p:=h
theorem Yx17 {p:Prop} (h:p:=by
 have HR:Hid ((rn s.data.toList).length≤s.size):=by have:=Lq s.data.toList;rw [Lib.size_eq];exact this
 have hT':=Zh hT;clear hT;go_enter Tryz.func148,Tryz.ntmps148;go_wp2;go_loopw [3,4] (fun n a w'=>∃ k:Nat,Below w w w'∧n = .int .i64 k∧a = .int .i64 (cutAt s.data.toList k)∧k≤(rn s.data.toList).length∧Hid (((rn s.data.toList).take k).all good=true)) (fun _ a _=>s.size-(intOf a).toNat)
 case atStart=>exact ⟨0,YJ _ _,rfl,rfl,Tk _,rfl⟩
 case round=>
  obtain ⟨k,hb,rfl,rfl,hle,UO⟩:=hrel;by_cases hp:cutAt s.data.toList k<s.size
  ·have hwd:=Lib.decode_width_pos s _ hp;obtain ⟨h1,h2,h3,h4⟩:=Km s k hp
   have aj:cutAt s.data.toList k+(Utf8.decode s (cutAt s.data.toList k)).2≤s.size:=by
    have:=Ge s.data.toList (k+1);rw [←Lib.size_eq] at this;omega
   have H2:=Zh h2;have H4:=Zh h4;clear h2 h4;have hks:k<s.size:=by omega
   have CD:=Zh (lN s (cutAt s.data.toList k) wr hp (Utf8Tabs_below hT'.o hb));by_cases hg:good (Utf8.decode s (cutAt s.data.toList k))=true
   ·generalize hd:Utf8.decode s (cutAt s.data.toList k)=d at *
    have HD:=Zh hd;clear hd;have hG:¬(d.1=65533∧d.2=1):=by unfold good at hg;intro h;simp [h] at hg
    have HG:=Zh hg;clear hg;obtain ⟨r,wd⟩:=d;dsimp only at *
    by_cases g1:r=65533
    ·have g2:((wd:Int) == 1)=false:=by rw [WR];omega
     subst g1;clear hG;exact Yt16
    ·have g2:((r:Int) == 65533)=false:=by rw [WR];omega
     clear hG g1;exact Yt16
   ·have hg:good (Utf8.decode s (cutAt s.data.toList k))=false:=by simpa using hg
    have HF:Hid (runes s.data.toList = -1):=by
     show _=_;unfold runes;rw [BO H4.o hg];rfl
    have hd:=vW hg;rw [hd] at CD;clear hg hd;go_wp2_with (go_at_call 149;refine CD.o.mono ?_;rintro e w' ⟨rfl,Y7⟩)
    go_ret;exact ⟨YW HF.o.symm,hb.trans (Y7.mono hb.size)⟩
  ·have hend:=Db s k hp
   have HF:Hid (runes s.data.toList=(k:Int)):=by
    show _=_;have e:(rn s.data.toList).length=k:=by omega
    have h:=UO.o;rw [←e,nv] at h;unfold runes;rw [ZR h,e]
   go_wp2;go_ret
   exact ⟨YW HF.o.symm,hb⟩):p:=h
theorem bI {p:Prop} (h:p:=by
 go_wp2_with (first|(go_at_call 78;refine (P9 5 0 _).mono ?_;rintro e w5 ⟨⟨cs,rfl,Py⟩,MI⟩;have Rl:=Zh (Ux.o.trans (MI.mono Ux.o.size));have JG:=(Rl.o.block (w.heap.size+1) (ZW HZ.o)).trans HZ.o;have hi:=QA Py;have hold:=P_ Py;have O_:=Py.one;have JV:=Zh Py;clear Py MI)|(with_reducible refine ZU 100 (.tmp 6) (.tmp 48) rfl ?_;refine ZV rfl 100 (.tmp 6) (.tmp 48) rfl rfl (w.heap.size+1) cs.toArray rfl rfl 100 Xr JG hi hold O_ ?_))
 refine VD (v:= .agg cs.toArray) ?_ rfl ?_
 ·exact bC
 exact ⟨⟨cs,rfl,by rw [HX.o];exact JV.o.setRow JG _⟩,Z3 (RM.o.trans (Rl.o.mono RM.o.size)) (Ix _) _⟩):p:=h
theorem Yx19 {p:Prop} (h:p:=by
 go_enter Tryz.func151,Tryz.ntmps151;go_wp2_with (first|(go_at_call 169;refine CK.o.mono ?_;rintro e w2 ⟨rfl,Y7⟩;have Sh:=(Y7.block w.heap.size (ZW QJ)).trans QJ;have X8:=Zh (V6.o.trans (Y7.mono V6.o.size));clear Y7)|(go_at_call 170;refine (Fy _ b _ (HV.o _ X8.o)).mono ?_;rintro e w4 ⟨⟨a,rfl,hit⟩,Oj⟩;generalize XZ b=RG at *;obtain ⟨⟨i,ri⟩,er⟩:=RG;dsimp only at hit;obtain ⟨xa,xc,ya,yc,za,zc,ha,Mx⟩:=K_ hit;subst ha;have ym:=Zh Mx;have uP:=(Oj.block w.heap.size (ZW Sh)).trans Sh;have Ux:=Zh (X8.o.trans (Oj.mono X8.o.size));clear hit Mx Oj)|(with_reducible refine ZU 173 (.tmp 2) (.tmp 36) rfl ?_;refine ZV rfl 173 (.tmp 2) (.tmp 36) rfl rfl w.heap.size (Qe i.kind i.YE i.Ie i.time i.WY i.octets xa i.blocks.length xc ya i.gone.length yc i.X5 za i.XA.length zc) rfl rfl 173 YZ uP ZB ZB ZB ?_))
 refine VD (v:= .tuple (Qs (Qe i.kind i.YE i.Ie i.time i.WY i.octets xa i.blocks.length xc ya i.gone.length yc i.X5 za i.XA.length zc) (ri:Nat) er)) ?_ rfl ?_
 ·exact Yt11
 exact ⟨⟨_,by rw [HX.o],by rw [HX.o];exact Ns (ym.o.setRow uP _)⟩,Z3 Ux.o (Zw _) _⟩):p:=h
theorem Nh {p:Prop} (h:p:=by
 (try dsimp only)
 (first|exact IU.o _ (Fr.Z7 _ Wd)|exact IU.o _ (Fr.setAt (Fr.Z7 _ Wd) _ _)|go_keep)):p:=h
theorem Yx22 {p:Prop} (h:p:=by
 have hT':=Zh hT;have CM:=Zh (uh s w hs);have HK:Hid (key s.data.toList=if may s.data.toList then s.data.toList.map low else []):=rfl;clear hT;by_cases hm:may s.data.toList=true
 ·have HF:Hid (key s.data.toList=mapD NY s.data.toList):=by
   show _=_;rw [HK.o,ZR hm,pC _ (by rw [tT];exact Es hm)]
  have H9:s.size<35184372088832:=by have:=uT hm;rw [←Lib.size_eq] at this;omega
  rw [hm] at CM;clear hm
  have CF:∀ w1,Below w w w1→Calls Tryz.prog 177 #[.func (.func 178) #[] #[],.string s] w1 fun e w'=>e = .returned (.string ⟨(Lib.mapD NY s.data.toList).toArray⟩)∧Below w1 w1 w':=by
   intro w1 hb;refine Tryz.strings_Map_runes 178 #[] ?_ NY s w1 H9 ?_ ?_ (Utf8Tabs_below hT'.o hb)
   ·exact fun args w=>by kernel_rfl
   ·intro W x hx _;exact (mK (x:Int) W Zo Zo).mono fun e w' h=>⟨h.1,0,h.2.symm⟩
   ·intro x hx;unfold NY;split <;> omega
  have CF:=Zh CF;go_enter Tryz.func162,Tryz.ntmps162;go_wp2_with (first|(go_at_call 161;refine CM.o.mono ?_;rintro e w1 ⟨rfl,hb⟩)|(go_at_call 177;refine (CF.o _ SZ).mono ?_;rintro e w2 ⟨rfl,Y7⟩))
  go_ret;refine ⟨?_,hb.trans (Y7.mono hb.size)⟩;rw [HF.o];rfl
 ·have hm:may s.data.toList=false:=by simpa using hm
  have HF:Hid (key s.data.toList=[]):=by show _=_;rw [HK.o,hm];rfl
  rw [hm] at CM;clear hm;go_enter Tryz.func162,Tryz.ntmps162;go_wp2_with (first|(go_at_call 161;refine CM.o.mono ?_;rintro e w1 ⟨rfl,hb⟩))
  go_ret
  exact ⟨Ii (by rw [HF.o];rfl),hb⟩):p:=h
theorem Yx23 {p:Prop} (h:p:=by
 have VA:Hid (X=((XT,0),4)):=by show _=_;rw [lf.o,ZR Cm]
 have dm:((m:Int) != 1)=true:=by rw [RQ];omega
 have CW:=Zh (yi.o 0 0 Zo);have TZ:=H1.o.z;have UF:=H1.o.Y8;go_wp2_with (first|(go_at_call 116;refine CW.o.mono ?_;rintro e w' ⟨rfl,rfl⟩)|(with_reducible refine Zj 173 (.tmp 5) rfl ?_;refine Zf rfl 173 (.tmp 5) rfl (w.heap.size+1) rfl 173 YZ (0,0) _ UF Tryz.underlying173 rfl ZB ?_)|(with_reducible refine ZU 173 (.tmp 2) (.tmp 54) rfl ?_;refine ZV rfl 173 (.tmp 2) (.tmp 54) rfl rfl w.heap.size YZ rfl rfl 173 YZ TZ ZB ZB ZB ?_))
 refine VD (v:= .tuple (Qs YZ 0 4)) ?_ rfl ?_
 ·exact bB
 exact UD.o _ 4 TZ H1.o.Zg VA.o):p:=h
theorem bJ {p:Prop} (h:p:=by
 rw [E2.o] at wJ;have gY:=Row.Z6 wJ;obtain ⟨pv',Bj,lJ,K5,sF,⟨ms',hJ,H9,Cq⟩,hu'⟩:=hr.Vw
 have oU:lJ = .slice (some ⟨g,0,none⟩) T.Z0.length cp:=by
  have h1:=cell_of K5 2;rw [(Zz.o w' h).1] at h1;simpa using h1.symm
 subst oU;refine ⟨⟨pv',Bj,.slice (some ⟨g,0,none⟩) T.Z0.length cp,by rw [hf.block b Gx (fun e=>K6 e.symm)];exact K5,?_⟩,?_⟩
 ·rw [HT1.o];exact ⟨sF.fr hf (Zw _) (H' _ Zd),⟨ms',hJ,H9.fr hf (Zw _) (H' _ Zd),fun x hx=>(Cq x hx).fr hf (Zw _) (H' _ Zd)⟩,by rw [List.length_set];exact gY⟩
 ·have h1:Fr w (· = b) w W1:=(Fr.Z7 _ S5.o).trans (Io.o.mono Zo (fun _ _ h=>h))
  exact (h1.trans ((Fr.Z7 (· = b) h).mono Zo (fun _ _ h=>h))).setCell (Ws T_) _):p:=h
theorem Yx26 {p:Prop} (h:p:=by
 clear VA;go_enter Tryz.func108,Tryz.ntmps108;go_wp2_with (go_at_call 131;refine CO.o.mono ?_;rintro e w2 ⟨⟨n,rfl⟩,Y7⟩;have RM:=Zh (V6.o.trans (Y7.mono V6.o.size));have Sh:=(Y7.block w.heap.size (ZW hz)).trans hz;have c0:=cell_of Sh 0;simp only [SE,SD] at c0;clear Y7 Sh)
 go_ret2
 exact ⟨⟨.slice none 0 0,by rw [HX.o];rfl,by rw [HX.o];exact Row.nil _ _⟩,by rw [HX.o];exact HR.o.below RM.o,Fr.Z7 _ RM.o⟩):p:=h
theorem Yx27 {p:Prop} (h:p:=by
 go_simp;refine hK.out _ _ ?_ (fun _=>?_)
 ·exact Nh
 clear hK K;try simp only [Z_.pt]
 refine wpAnyH_ready (rs:=[5]) ZB Zi ?_;refine AllReadyH.cons (i:=5) rfl (fun K hK=>?_) ?_
 ·(first|(go_split_ands;refine Zp Zr (.const (.slice none 0 0)) (.tmp 23) 47 Zr w1.heap.size TQ (.slice none 0 0) 0 [] Zr (TY _ _ _ _) (.slice a T.ZA.length cap) T.ZA.length (T.ZA.flatMap Yx) Zr ?_ Bv.o (Pm _) Zo Zo ?_ ?_;(exact Sz.o _ Wd);(exact Below.size Wd);intro v1 w2 T9 OH;have Uk:=XD OH.o;have Yq:Below w1 w1 w2:=Heap.Below.call Wd (Zw _) Uk;obtain ⟨k2,k3,k4,k5⟩:=Zz.o _ Yq)|(go_split_ands;refine Zp Zr (.tmp 24) (.tmp 30) 47 Zr w1.heap.size TQ v1 (0+T.ZA.length) ([]++T.ZA.flatMap Yx) Zr ?_ _ 1 (Q3 p (str nm)) Zr ?_ Zr (Li ⟨p,nm⟩) Zo Zo ?_ ?_;(repeat (first|with_reducible exact T9.o|with_reducible refine Xd ?_|with_reducible refine World.ownsRow.alloc ?_ _));(repeat (first|((with_reducible refine Tf _ _ 1 (Q3 p (str nm)) Zd _ ?_);rfl)|with_reducible refine Row.drew ?_|with_reducible refine Row.below ?_ Uk));(exact Below.size Wd);intro v2 w3 Px KF;have Wn:Below w1 w1 w3:=Below.grown Wd KF.o (Below.size Wd) (YL T9.o);obtain ⟨k6,k7,k8,k9⟩:=Zz.o _ Wn;obtain ⟨va,vc,hv⟩:=WE Px.o;subst hv))
  exact Yx6
 exact AllReadyH.nil):p:=h
theorem Yx28 {p:Prop} (h:p:=by
 go_simp;refine hK.out _ _ ?_ (fun _=>?_)
 ·exact Nh
 clear hK K;try simp only [Z_.pt]
 refine wpAnyH_ready (rs:=[5]) ZB Zi ?_;refine AllReadyH.cons (i:=5) rfl (fun K hK=>?_) ?_
 ·(first|(go_split_ands;refine Zp Zr (.const (.slice none 0 0)) (.tmp 79) 49 Zr V.heap.size Uh (.slice none 0 0) 0 [] Zr (TY _ _ _ _) (.slice a T.Z0.length cap) T.Z0.length (T.Z0.flatMap Zt) Zr ?_ Bv.o (Tw _) Zo Zo ?_ ?_;(exact Sz.o _ Wd);(exact Below.size Wd);intro v1 w2 T9 OH;have Uk:=XD OH.o;have Yq:Below V V w2:=Heap.Below.call Wd (Zw _) Uk;have r2:Below w2 w2 w2:=YJ _ _;obtain ⟨k2,k3⟩:=Zz.o _ Yq)|(go_split_ands;refine Zp Zr (.tmp 80) (.tmp 82) 49 Zr V.heap.size Uh v1 (0+T.Z0.length) ([]++T.Z0.flatMap Zt) Zr ?_ _ 1 (Ql p n la false) Zr ?_ Zr (LC ⟨p,n,la,false⟩) Zo Zo ?_ ?_;(exact Zx T9.o Wd);(repeat (first|((with_reducible refine Tf _ _ 1 (Ql p n la false) Zd _ ?_);rfl)|with_reducible refine Row.drew ?_|with_reducible refine Row.below ?_ Uk));(exact Below.size Wd);intro v2 w3 Px KF;have Wn:Below V V w3:=Below.grown Wd KF.o (Below.size Wd) (YL T9.o);obtain ⟨k6,k7⟩:=Zz.o _ Wn;obtain ⟨va,vc,hv⟩:=WE Px.o;subst hv))
  exact Yx7
 exact AllReadyH.nil):p:=h
theorem mZ {p:Prop} (h:p:=by
 go_enter Tryz.func131,Tryz.ntmps131;go_wp2_with (first|(go_at_call 160;refine CW.o.mono ?_;rintro e w2 ⟨rfl,rfl⟩)|(go_at_call 83;refine CS.o.mono ?_;rintro e w3 ⟨rfl,VJ⟩;have Wc:=Zh VJ;clear VJ))
 go_ret2
 exact ⟨⟨0,by rw [zg.o];rfl⟩,ZF Wc.o (Zw _) _⟩):p:=h
theorem bK {p:Prop} (h:p:=by
 have x1:w1.cell? ⟨w,1,none⟩=some (.int .i64 p):=V9 1;have x2:w1.cell? ⟨w,2,none⟩=some (.int .i64 n):=V9 2;have x3:w1.cell? ⟨w,3,none⟩=some (.int .i64 la):=V9 3;have x4:w1.cell? ⟨w,4,none⟩=some (.string (str nm)):=V9 4;have x5:w1.cell? ⟨w,5,none⟩=some (.slice sa ss.length sc):=V9 5;have x6:w1.cell? ⟨w,6,none⟩=some (.slice ba bl bc):=V9 6;clear YY V9;go_wp2_with (go_at_call 102;(with_reducible refine (C.o w1 (HR.o.below V6.o)).mono ?_);rintro e w2 ⟨⟨tv,rfl,S3⟩,UX,Wu⟩)
 go_ret2
 exact Vi HF S3 UX ((Fr.Z7 _ V6.o).trans (Wu.mono Zo (fun _ _ h=>h)))):p:=h
theorem Yx31 {p:Prop} (h:p:=by
 obtain ⟨r,rfl⟩:=Rf h0;rw [Wz];have hc:=kI r;by_cases b1:r<33
 ·have HF:Hid (Ig r=false):=by show _=_;rw [KM,ne_eq,hc];omega
  clear hc;exact jb
 by_cases b2:r<127
 ·have HF:Hid (Ig r=true):=by show _=_;rw [hc];omega
  clear hc;have t2:((r:Int) != 65533)=true:=by rw [RQ];omega
  exact jb
 by_cases b3:r≤159
 ·have HF:Hid (Ig r=false):=by show _=_;rw [KM,ne_eq,hc];omega
  clear hc;exact jb
 by_cases b4:r=65533
 ·have HF:Hid (Ig 65533=false):=by show _=_;decide
  clear hc;subst b4;exact jb
 ·have HF:Hid (Ig r=true):=by show _=_;rw [hc];omega
  clear hc;have t2:((r:Int) != 65533)=true:=by rw [RQ];omega
  clear b4;go_enter Tryz.func150,Tryz.ntmps150;go_wp2;go_ret
  exact ⟨Xw (by rw [HF.o];simp;omega),rfl⟩):p:=h
theorem Yx33 {p:Prop} (h:p:=by
 go_ret;have h1:Row (w.alloc (.cells (YO [10,11]).toArray 66)) 66 (.slice (some ⟨w,0,none⟩) 2 2) 2 (YO [10,11]):=Vz w _ 2 (YO [10,11]) Zd;have h2:=Vz (w.alloc (.cells (YO [10,11]).toArray 66)) 5 17 (RD ay) Zd;have h3:=Vz ((w.alloc (.cells (YO [10,11]).toArray 66)).alloc (.cells (RD ay).toArray 5)) 32 5 ((Gb w.heap.size).flatMap fun y=>Xi y.x) Zd;have e1:(w.alloc (.cells (YO [10,11]).toArray 66)).heap.size=w.heap.size+1:=by show (w.heap.push _).size=_;rw [OI]
 have e2:((w.alloc (.cells (YO [10,11]).toArray 66)).alloc (.cells (RD ay).toArray 5)).heap.size=w.heap.size+2:=by show ((w.heap.push _).push _).size=_;rw [OI,OI]
 rw [e1] at h2;rw [e2] at h3;refine ⟨rfl,⟨h3,?_⟩,ZF (ZF (Z' w _) (Zw _) _) (Zw _) _⟩;intro x hx;simp only [Gb,KN,List.mem_nil_iff,or_false] at hx;rcases hx with rfl|rfl|rfl|rfl|rfl
 ·exact ⟨Row.nil _ _,Row.nil _ _,by decide⟩
 ·exact ⟨Row.nil _ _,Row.nil _ _,by decide⟩
 ·exact ⟨(h1.below (Z' _ _)).below (Z' _ _),Row.nil _ _,by show (cy 2).name.length<_;decide⟩
 ·exact ⟨Row.nil _ _,Row.nil _ _,by decide⟩
 ·exact ⟨Row.nil _ _,h2.below (Z' _ _),by show (cy 4).name.length<_;decide⟩):p:=h
theorem Yx34 {p:Prop} (h:p:=by
 have hb:(er != 0)=true:=by rw [RQ];exact RU
 have Y7:(er == 0)=false:=by rw [WR];exact RU
 rw [ZR RU] at HX;go_wp2_with (first|(go_at_call 78;refine (P9 3 er _).mono ?_;rintro e w5 ⟨⟨cs,rfl,Py⟩,MI⟩;have Rl:=Zh (X8.o.trans (MI.mono X8.o.size));have JG:=(Rl.o.block (w.heap.size+1) (ZW HZ.o)).trans HZ.o;have hi:=QA Py;have hold:=P_ Py;have O_:=Py.one;have JV:=Zh Py;clear Py MI)|(with_reducible refine ZU 100 (.tmp 4) (.tmp 26) rfl ?_;refine ZV rfl 100 (.tmp 4) (.tmp 26) rfl rfl (w.heap.size+1) cs.toArray rfl rfl 100 Xr JG hi hold O_ ?_))
 refine VD (v:= .agg cs.toArray) ?_ rfl ?_
 ·exact bC
 exact UD.o _ cs _ (Z3 (RM.o.trans (Rl.o.mono RM.o.size)) (Ix _) _) (JV.o.setRow JG _) HX.o):p:=h
theorem jl {p:Prop} (h:p:=by
 go_enter Tryz.func96,Tryz.ntmps96;go_wp2_with (go_at_call 48;(with_reducible refine (CA.o _ (Z' _ _)).mono ?_);rintro e w1 ⟨rfl,YY⟩;obtain ⟨L_,Kb⟩:=SY YY;have QJ:w.heap.size<w1.heap.size:=OS Zi YY.size)
 go_ret
 exact ⟨YW HF.o.symm,(Z' _ _).trans (YY.mono Zi)⟩):p:=h
theorem jm {p:Prop} (h:p:=by
 go_enter Tryz.func179,Tryz.ntmps179;go_wp2_with (first|(go_at_call 191;refine HCK.o.mono ?_;rintro e w' ⟨rfl,rfl⟩)|(go_at_call 155;refine qo.o.mono ?_;rintro e w' ⟨rfl,rfl⟩))
 go_quiet ((go_at_call 192;exact Calls.quiet_of_same ((CS.o _).mono fun e w' h=>⟨h.1,h.2.symm⟩)))
 go_wp2
 go_ret2
 exact ⟨rfl,OW VX _⟩):p:=h
theorem Yx38 {p:Prop} (h:p:=by
 rw [ZR (by simp [hj])] at HX;rw [Bool.not_eq_true] at hj;rw [hj];go_wp2_with (first|(go_at_call 78;refine (P9 4 0 _).mono ?_;rintro e w5 ⟨⟨cs,rfl,Py⟩,MI⟩;have Rl:=Zh (Wc.o.trans (MI.mono Wc.o.size));have JG:=(Rl.o.block (w.heap.size+1) (ZW HZ.o)).trans HZ.o;have hi:=QA Py;have hold:=P_ Py;have O_:=Py.one;have JV:=Zh Py;clear Py MI)|(with_reducible refine ZU 100 (.tmp 4) (.tmp 35) rfl ?_;refine ZV rfl 100 (.tmp 4) (.tmp 35) rfl rfl (w.heap.size+1) cs.toArray rfl rfl 100 Xr JG hi hold O_ ?_))
 refine VD (v:= .agg cs.toArray) ?_ rfl ?_
 ·exact bC
 exact UD.o _ cs _ (Z3 (RM.o.trans (Rl.o.mono RM.o.size)) (Ix _) _) (JV.o.setRow JG _) HX.o):p:=h
theorem Yx40 {p:Prop} (h:p:=by
 clear HS j3;go_wp2_with (first|(go_at_call 132;refine CG.o.mono ?_;rintro e w2 ⟨⟨tv,rfl,S3⟩,QT,Sb⟩;obtain ⟨ta,tc,oY,-⟩:=id S3;subst oY;have FK:=Zh S3;have LP:=Zh QT;have T4:=Zh Sb;have H9:=Sb.size;clear QT Sb S3)|(at_builtin;refine YV rfl (.tmp 60) (.tmp 61) 98 rfl w.heap.size XM _ G1.length (G1.flatMap Z9) rfl ?b1 _ Y1.length (Y1.flatMap Z9) rfl ?b2 ?b3 ?b4 ?b5 ?b6 ?b7 (fun v' w3 HO HG=>?_)))
 case b1=>exact WG Yh.o T4.o (fun k hk=>by omega)
 case b2=>exact FK.o
 case b3=>exact VT _
 case b4=>exact X_ _
 case b5=>omega
 case b6=>omega
 case b7=>omega
 go_roundw
 case rel=>
  refine ⟨j+1,Zo,Zn,by rw [HT.o,QC.o],?_,?_,?_⟩
  ·exact (T8.o.trans (T4.o.mono TR (fun _ _ h=>h))).grown HG.o Zo (YL Yh.o)
  ·rw [HT.o,QC.o];exact ZT.grown LP.o (WG Yh.o T4.o (fun k hk=>by omega)) HG.o hb Zd
  ·rw [HT.o,QC.o];dsimp only;rw [UE,OQ];exact HO.o
 case measure=>simp [intOf];omega):p:=h
theorem m_ {p:Prop} (h:p:=by
 (try dsimp only)
 first|exact ⟨iL.o.pk.Q_ 0,iL.o.pk.Q_ 1,iL.o.pk.Zg⟩|exact ⟨Px.o.pk.Q_ 0,Px.o.pk.Q_ 1,Px.o.pk.Zg⟩|exact ⟨T9.o.pk.Q_ 0,T9.o.pk.Q_ 1,T9.o.pk.Zg⟩|exact ⟨k0,k1,JU.o.pk.Zg⟩|exact vE.o _ (YJ _ _).drew):p:=h
theorem jo {p:Prop} (h:p:=by
 go_wp2_with fail
 go_quiet (fail)
 have X8:=Zh (below_drewN HB.o nq);have HZ2:Hid ((wr.drewN nq).heap[w.heap.size]?=some (.cells (Qc p s b f) 59 (0,0))):=HZ.o;go_wp2_with fail
 go_roundw
 case rel=>exact ⟨j+1,Zo,Zn,X8.o,HZ2.o,qw.o⟩
 case measure=>simp [intOf];omega):p:=h
theorem BM {p:Prop} (h:p:=by
 go_wp2_with (go_at_call 92;refine CT.o.mono ?_;rintro e w' ⟨rfl,rfl⟩)
 go_ret
 exact ⟨rfl,rfl⟩):p:=h
theorem Yx44 {p:Prop} (h:p:=by
 go_loop [8,23] (fun n i=>∃ k:Nat,k≤s.length∧i = .int .i64 k∧n = .int .u64 (be (s.take k):Nat)) (fun _ i=>s.length-(intOf i).toNat)
 case atStart=>exact ⟨0,Tk _,rfl,rfl⟩
 case round=>
  obtain ⟨k,hk,rfl,rfl⟩:=hrel;by_cases hkq:k<s.length
  ·obtain ⟨g,off,cap,e1,_,_,hc⟩:=BQ (l:=s) U'.o Zo;cases e1;have d:=hc k Zo
   have HB:Hid (be (s.take (k+1))=be (s.take k)*256+s[k].toNat):=by
    show _=_;rw [List.take_succ_eq_append_getElem Zo,jB]
   have PV:be (s.take k)<72057594037927936:=ct mS;have hor:=kK (be (s.take k)) s[k] PV;have qG:=s[k].toNat_lt;clear hc;generalize s[k]=x at *
   generalize be (s.take k)=m at *
   go_wp2
   go_round
   case rel=>exact ⟨k+1,Zo,Zn,by rw [HB.o];go_num⟩
   case measure=>simp [intOf];omega
  ·obtain rfl:k=s.length:=by omega
   go_wp2
   go_ret2
   exact ⟨rfl,rfl⟩):p:=h
theorem Yx45 {p:Prop} (h:p:=by
 have hc:=HC.o k VK
 have HBAD:Hid (¬(2≤ss.getD k 0∧ss.getD k 0<3221225472)→Dc=5):=by
  intro h;rw [mn.o,ZR];rw [List.any_eq_true];refine ⟨ss.getD k 0,?_,by generalize ss.getD k 0=z at h ⊢;simp;omega⟩;rw [SC,Vb VK];exact PA VK
 generalize hy:ss.getD k 0=y at *
 have HY:=Zh hy;clear hy;by_cases g1:y<2
 ·have HF:=Zh (HBAD.o Zo);go_wp2;go_ret;exact ⟨YW HF.o.symm,Z' _ _⟩
 by_cases g2:3221225472≤y
 ·have HF:=Zh (HBAD.o Zo);go_wp2;go_ret;exact ⟨YW HF.o.symm,Z' _ _⟩
 ·go_wp2
  go_round
  case rel=>exact ⟨k+1,Zo,Zn,fun j hj=>by by_cases JC:j<k;exact KA.o j JC;rw [show j=k by omega,HY.o];omega⟩
  case measure=>simp [intOf];omega):p:=h
theorem rP {p:Prop} (h:p:=by
 (try dsimp only)
 first|exact Zz.o _ (LR.o)|exact Zz.o _ lf.o|exact Zz.o _ ug.o|exact Zz.o _ bz.o|exact Zz.o _ fq.o|exact Zz.o _ HX8.o):p:=h
theorem Yx47 {p:Prop} (h:p:=by
 have HC:Hid (NY r=if 65≤r∧r≤90 then r-65+97 else r):=rfl;by_cases b1:65≤r
 ·by_cases b2:r≤90
  ·have HF:Hid (NY r=r-65+97):=by show _=_;rw [HC.o,ZR ⟨b1,b2⟩]
   go_enter Tryz.func178,Tryz.ntmps178;go_wp2;go_ret;exact ⟨YW HF.o.symm,rfl⟩
  ·have HF:Hid (NY r=r):=by show _=_;rw [HC.o,Z4 Zo]
   go_enter Tryz.func178,Tryz.ntmps178;go_wp2;go_ret;exact ⟨YW HF.o.symm,rfl⟩
 ·have HF:Hid (NY r=r):=by show _=_;rw [HC.o,Z4 Zo]
  go_enter Tryz.func178,Tryz.ntmps178;go_wp2;go_ret
  exact ⟨YW HF.o.symm,rfl⟩):p:=h
theorem Yx48 {p:Prop} (h:p:=by
 have x1:w1.cell? ⟨w,1,none⟩=some (.int .i64 p):=V9 1;have x2:w1.cell? ⟨w,2,none⟩=some (.int .i64 n):=V9 2;have x3:w1.cell? ⟨w,3,none⟩=some (.int .i64 la):=V9 3;have x4:w1.cell? ⟨w,4,none⟩=some (.string (str nm)):=V9 4;have x5:w1.cell? ⟨w,5,none⟩=some (.slice sa ss.length sc):=V9 5;have x6:w1.cell? ⟨w,6,none⟩=some (.slice ba bl bc):=V9 6;clear YY V9;go_wp2_with (go_at_call 101;(with_reducible refine (C.o w1 (HR.o.below V6.o)).mono ?_);rintro e w2 ⟨⟨tv,rfl,S3⟩,UX,Wu⟩)
 go_ret2
 exact Vi HF S3 UX ((Fr.Z7 _ V6.o).trans (Wu.mono Zo (fun _ _ h=>h)))):p:=h
theorem Yx49 {p:Prop} (h:p:=by
 have h:=Z8 (w.alloc (.cells (Qa kd peer src ly nm sa sl sc ba bl bc) 32)) (.cells Xr 100);have e:(w.alloc (.cells (Qa kd peer src ly nm sa sl sc ba bl bc) 32)).heap.size=w.heap.size+1:=by show (w.heap.push _).size=_;rw [OI]
 rw [e] at h
 exact h):p:=h
theorem Yx50 {p:Prop} (h:p:=by
 have k2:=cell_of HG.o.Y8 6;simp only [SE,SD,R8] at k2;have f2:=ZO HG.o.Y8 6;refine Z_.Zb hK _ _ ?_ (fun _=>?_)
 ·(try dsimp only)
  first|exact k2|exact k1|exact k0
 clear hK K;try simp only [Z_.pt]
 refine YP 39 (h:=?_);refine YR 40 (h:=fun K hK=>?_);go_simp;refine Z_.Yk hK _ _ ZB ?_;clear hK K;try simp only [Z_.pt]
 refine Z_.YC ZB ?_ _;refine RA ?_;go_wp2_with fail
 go_roundw
 case rel=>
  refine ⟨i+1,pos+24,na,nq,Zo,by have:=NL.o;omega,Zn,Zn,?_,?_⟩
  ·exact HG.o.set 6 (.slice na (i+1) nq)
  ·rw [LQ.o];exact Kk HO.o HG.o.Y8 Zd _ _
 case measure=>simp [intOf];omega):p:=h
theorem ng {p:Prop} (h:p:=by
 have Ip:=Zh (LO.o.below (below_drewN (YJ _ _) nq));go_wp2_with fail
 go_meet;rw [Hu.o]
 exact Ip.o):p:=h
theorem ni {p:Prop} (h:p:=by
 exact results_cell_row Zr _ _ (w.heap.size+1) 100 cs.toArray (0,0) _ Zr (setRow_heap _ _ _ _ _ _ JG) Tryz.underlying100 rfl hi):p:=h
theorem bL {p:Prop} (h:p:=by
 exact UK (p:=2) (u:=3) (v:=4) Zr _ _ w.heap.size 173 YZ (0,0) _ Zr (setRow_heap _ _ _ _ _ _ TZ) Tryz.underlying173 rfl ZB):p:=h
theorem bM {p:Prop} (h:p:=by
 exact UK (p:=2) (u:=3) (v:=4) Zr _ _ w.heap.size 173 YZ (0,0) _ Zr (setRow_heap _ _ _ _ _ _ Sh) Tryz.underlying173 rfl ZB):p:=h
theorem bN {p:Prop} (h:p:=by
 clear hK K;try simp only [Z_.pt]
 refine wpAnyH_done ZB ?_ _;refine RA ?_;go_wp2_with fail
 go_roundw
 case rel=>exact ⟨j+1,.slice na (G1++Y1).length nc,Zo,Zn,by rw [JV.o,LQ.o];have h8:=aQ.o;simp only [UE] at h8 ⊢;exact h8⟩
 case measure=>simp [intOf];omega):p:=h
theorem bO {p:Prop} (h:p:=by
 clear hK K;try simp only [Z_.pt]
 refine wpAnyH_done ZB ?_ _;refine RA ?_;go_wp2_with fail
 go_roundw
 case rel=>exact ⟨j+1,_,Zo,Zn,HP6.o,by rw [qE,NR,List.map_cons,List.map_nil,tS,DI.o,←HXS.o];exact IK.o⟩
 case measure=>simp [intOf];omega):p:=h
theorem Yx59 {p:Prop} (h:p:=by
 have hw:Region.wanted o (yielded ops a.tmps)=true:=by simp [Region.wanted,Mb]
 rw [ZR hw];obtain ⟨z,Uz,lH⟩:=E.info;obtain ⟨i,hi,hz,Sg,oh⟩:=info_parts Uz;refine Go.wp_buildSlice t e 1 #[(0,x)] ho #[v] i z E.ht hi hz (by rw [Sg];omega) (by rw [Sg];omega) ?_ h;have hf:=Go.Great.fill_whole (s:=i.size) Zo [v] ((Array.range (1*i.size)).map (z.cells[· % z.cells.size]!)) (fun u hu=>by rw [J1] at hu;subst hu;rw [hv];show 1=_;omega) Zi;have e1:([v].flatMap fun v=>v.cells.toList).toArray=#[v]:=by simp [hv]
 rw [e1] at hf
 simpa [hx] using hf):p:=h
theorem nj {p:Prop} (h:p:=by
 have h2:=Oz Zo hZ4 IB (HV.o w' h)
 rwa [show (b.drop 4).take (Z-4)=(b.drop 4).take (4*Lg) by rw [show Z-4=4*Lg by rw [HZ.o];omega]] at h2):p:=h
theorem jq {p:Prop} (h:p:=by
 rcases decodeN_shape n b0 b1 b2 b3 with ⟨c,e⟩|⟨c1,c2,c3,cv,e⟩|⟨c1,c2,c3,c4,cv,cs,e⟩|⟨c1,c2,c3,c4,c5,cv,cw,e⟩|e
 ·omega
 all_goals (rw [e];dsimp only;rw [hc _ Zo])):p:=h
theorem np {p:Prop} (h:p:=by
 clear HW;go_enter Tryz.func167,Tryz.ntmps167;go_wp2;go_ret
 exact ⟨Xw HF.o.symm,rfl⟩):p:=h
theorem nr {p:Prop} (h:p:=by
 clear HF;go_enter Tryz.func116,Tryz.ntmps116;go_wp2;go_ret
 exact ⟨by rw [HX.o];rfl,rfl⟩):p:=h
theorem Yx64 {p:Prop} (h:p:=by
 clear VA;go_enter Tryz.func108,Tryz.ntmps108;go_wp2_with (go_at_call 130;refine CO.o.mono ?_;rintro e w2 ⟨⟨n,l,rfl⟩,Y7⟩;have RM:=Zh (V6.o.trans (Y7.mono V6.o.size));have Sh:=(Y7.block w.heap.size (ZW hz)).trans hz;have c0:=cell_of Sh 0;simp only [SE,SD] at c0;clear Y7 Sh)
 go_ret2
 exact ⟨⟨.slice none 0 0,by rw [HX.o];rfl,by rw [HX.o];exact Row.nil _ _⟩,by rw [HX.o];exact HR.o.below RM.o,Fr.Z7 _ RM.o⟩):p:=h
theorem bP {p:Prop} (h:p:=by
 go_enter Tryz.func164,Tryz.ntmps164;go_wp2;go_quiet (fail)
 go_wp2;go_ret
 exact ⟨YW HF.o.symm,by repeat (first|exact YJ _ _|refine below_drewN ?_ _|refine Below.drew ?_|refine Below.alloc ?_ Zi _)⟩):p:=h
theorem bQ {p:Prop} (h:p:=by
 go_enter Tryz.func126,Tryz.ntmps126;go_wp2
 exact VD (v:= .tuple (Qo (Qd 0 false false 0) 1)) (by simp [results,Tryz.results126,go_sem]) rfl ⟨rfl,Uk⟩):p:=h
theorem Yx71 {p:Prop} (h:p:=by
 have C:=Zh (KJ v L w hT h hL);clear hT h hL;go_enter Tryz.func24,Tryz.ntmps24;go_wp2_with (go_at_call 53;refine C.o.mono ?_;rintro e w2 ⟨k,g,b,ov,av,mv,lv,M,R,ep,rfl,-,Uc⟩;have BC:=Zh Uc;have k1:w2.cell? ⟨k,1,none⟩=some av:=(Zc Uc.book.Y8 1 rfl);clear Uc)
 go_ret;refine ⟨⟨av,rfl,?_⟩,BC.o.Zg⟩;have h:=Row.Z6 BC.o.book.XC
 rwa [Ww] at h):p:=h
theorem jr {p:Prop} (h:p:=by
 refine Z_.Yk hK _ _ ZB ?_;clear hK K;try simp only [Z_.pt]
 refine Z_.YC ZB ?_ _;refine RA ?_;go_wp2_with fail
 go_meet;rw [Hu.o]
 exact fh.o.row _):p:=h
theorem js {p:Prop} (h:p:=by
 go_enter Tryz.func96,Tryz.ntmps96;go_wp2;go_ret
 exact ⟨YW HF.o.symm,Z' _ _⟩):p:=h
theorem bR {p:Prop} (h:p:=by
 obtain ⟨a,c,rfl,-⟩:=id hv;clear hv h3;generalize XN b=X at *
 go_enter Tryz.func105,Tryz.ntmps105;go_wp2_with fail
 go_ret2
 exact ⟨⟨.nilIface,by rw [HX.o];rfl,by rw [HX.o];rfl⟩,YJ _ _⟩):p:=h
theorem Yx75 {p:Prop} (h:p:=by
 rintro e w1 ⟨rfl,rfl⟩;go_wp2_with fail
 refine VD (v:= .tuple (Q1 (Ql 0 0 0 false) false)) (by simp [results,Tryz.results83,go_sem]) rfl ⟨rfl,Z' _ _⟩):p:=h
theorem Yx76 {p:Prop} (h:p:=by
 have HO:=Zh (HO.o.nR yO.o FQ.o);obtain ⟨za,zc,hx⟩:∃ a c,v30 = .slice a (qs.length+1) c:=by obtain ⟨a,c,h⟩:=Row.form (Row.Z6 FQ.o);exact ⟨a,c,by rw [h,UE];rfl⟩
 subst hx;obtain ⟨c5,c6,c7,-,-,-,-⟩:=HO.o.facts;have f5:=ZO HO.o.view 5;have f6:=ZO HO.o.view 6;have f7:=ZO HO.o.view 7;refine Z_.Zb hK _ _ ?_ (fun hHeld23=>?_)
 ·(try dsimp only)
  exact HO.o.facts
 exact Yx8):p:=h
theorem Yx77 {p:Prop} (h:p:=by
 have HO:=Zh (HO.o.nR yO.o FQ.o);obtain ⟨za,zc,hx⟩:∃ a c,v30 = .slice a (qs.length+1) c:=by obtain ⟨a,c,h⟩:=Row.form (Row.Z6 FQ.o);exact ⟨a,c,by rw [h,UE];rfl⟩
 subst hx;obtain ⟨c5,c6,c7,-,-,-,-⟩:=HO.o.facts;have f5:=ZO HO.o.view 5;have f6:=ZO HO.o.view 6;have f7:=ZO HO.o.view 7;refine Z_.Zb hK _ _ ?_ (fun uB=>?_)
 ·(try dsimp only)
  exact HO.o.facts
 exact Yx8):p:=h
theorem Yx78 {p:Prop} (h:p:=by
 have HO:=Zh (HO.o.nR yO.o FQ.o);obtain ⟨za,zc,hx⟩:∃ a c,v30 = .slice a (qs.length+1) c:=by obtain ⟨a,c,h⟩:=Row.form (Row.Z6 FQ.o);exact ⟨a,c,by rw [h,UE];rfl⟩
 subst hx;obtain ⟨c5,c6,c7,-,-,-,-⟩:=HO.o.facts;have f5:=ZO HO.o.view 5;have f6:=ZO HO.o.view 6;have f7:=ZO HO.o.view 7;refine Z_.Zb hK _ _ ?_ (fun nU=>?_)
 ·(try dsimp only)
  exact HO.o.facts
 exact Yx8):p:=h
theorem jt {p:Prop} (h:p:=by
 go_wp2;go_roundw
 case rel=>exact ⟨k+1,Zo,Zn,W8.alloc W8.size _,HF.o⟩
 case measure=>simp [intOf];omega):p:=h
theorem Yx80 {p:Prop} (h:p:=by
 have yB:=XG f k hk l;obtain ⟨g,off,cap,h1,h2,h3,h4,h5⟩:=h.open (by rw [yB];exact Nat.mul_pos hl gN);refine ⟨g,off,cap,h1,h2,h3,h4,fun i x hx j hj=>?_⟩;have hi:i<l.length:=(List.getElem?_eq_some_iff.1 hx).1
 have PV:i*k+j<l.length*k:=by
  have h6:(i+1)*k≤l.length*k:=Nat.mul_le_mul_right _ hi;rw [Nat.succ_mul] at h6;omega
 rw [Nat.add_assoc,h5 _ (by rw [yB];exact PV)]
 exact MV f k hk l i j x hx hj):p:=h
theorem ju {p:Prop} (h:p:=by
 clear HF;go_enter Tryz.func61,Tryz.ntmps61;go_wp2;go_ret
 exact ⟨Ll HX.o.symm,rfl⟩):p:=h
theorem Yx83 {p:Prop} (h:p:=by
 have VA:Hid (X=(([],R),if Uy R peer md then 0 else 1)):=by show _=_;rw [FV.o];simp
 have CO:=Zh (rz b R peer md _ KG.o sB Cm);clear FV hI hS lA hR sB Cm Bh;generalize Uy R peer md=O at *
 cases O with
 | false=>
  have HX:Hid (X=(([],R),1)):=by show _=_;rw [VA.o];rfl
  exact Yx26
 | true=>
  have HX:Hid (X=(([],R),0)):=by show _=_;rw [VA.o];rfl
  exact Yx26):p:=h
theorem Yx84 {p:Prop} (h:p:=by
 rw [hn] at CN;clear hn h hR;go_enter Tryz.func81,Tryz.ntmps81;go_wp2_with fail
 refine (CN.o _).mono ?_;rintro e w1 ⟨rfl,rfl⟩;go_wp2_with fail
 refine VD (v:= .tuple (Q1 (Qq 0 0 none 0 0 false) false)) (by simp [results,Tryz.results81,go_sem]) rfl ⟨rfl,Z' _ _⟩):p:=h
theorem Yx85 {p:Prop} (h:p:=by
 obtain ⟨la,wQ,rfl,hx⟩:=ZY;clear hx;have iF:Hid (L=[]):=BN h0;go_wp2_with fail
 go_loopw [7,22] (fun v i w'=>v = .slice none 0 0∧i = .int .i64 0∧w'=w1) (fun _ _ _=>0)
 case atStart=>exact ⟨rfl,rfl,rfl⟩
 case round=>
  obtain ⟨rfl,rfl,rfl⟩:=hrel;go_wp2;go_ret;rw [HM0.o,iF.o]
  exact ⟨⟨_,rfl,Row.nil _ _⟩,BB.o,JT.o⟩):p:=h
theorem jv {p:Prop} (h:p:=by
 clear HW;go_enter Tryz.func176,Tryz.ntmps176;go_wp2;go_ret
 exact ⟨Xw HF.o.symm,rfl⟩):p:=h
theorem Yx89 {p:Prop} (h:p:=by
 clear qB;go_enter Tryz.func109,Tryz.ntmps109;go_wp2_with (first|(go_at_call 111;refine (C1.o _).mono ?_;rintro e w1 ⟨rfl,rfl⟩)|(go_at_call 80;refine (CT.o _ (Z' _ _)).mono ?_;rintro e w1 ⟨rfl,rfl⟩))
 go_ret
 exact ⟨YW HF.o.symm,Z' _ _⟩):p:=h
theorem Yx90 {p:Prop} (h:p:=by
 refine VD (v:= .agg (Qf ca cc cp cm)) ?_ rfl ?_
 ·exact results_cell_row Zr _ _ (w.heap.size+1) 202 (Qf ca cc cp cm) (0,0) _ Zr (setRow_heap _ _ _ _ _ _ zA) Tryz.underlying202 rfl ZB
 exact ⟨by rw [VA.o],Z3 Kw.o.Zg (Ix _) _⟩):p:=h
theorem Yx92 {p:Prop} (h:p:=by
 obtain ⟨hl,h⟩:=h;refine ⟨by rw [List.length_set];exact hl,?_⟩;rcases h with ⟨_,h⟩|⟨g',cap',cur,hv,hg,hh,h1,h2,h3,h4⟩
 ·omega
 ·cases hv;refine Wh ⟨g,cap,cur.setIfInBounds i u,rfl,hg,by simp [World.setCell,Array.getElem?_modify,hh],h1,h2,by rw [Array.size_setIfInBounds];exact h3,?_⟩
  rw [Array.toList_setIfInBounds,List.take_set,h4]):p:=h
theorem Yx93 {p:Prop} (h:p:=by
 rw [List.set_append_right _ _ Ug];rw [List.take_add_one,Vb h];simp only [TB,S4,Option.toList,NR,List.map_cons,List.map_nil,gb]
 congr 1
 rw [show k-min k l.length=0 by omega,List.drop_eq_getElem_cons h,List.set_cons_zero,SC,Vb h]
 rfl):p:=h
theorem Yx94 {p:Prop} (h:p:=by
 obtain ⟨rfl,rfl⟩:=h0 rfl;have:news=[]:=BN (by rw [hl,Nat.zero_mul]);subst this;refine wpList_append_own_none Mb s x t ho base e i size E.ht hi v n xs hs YH hx (h v w ?_ ?_)
 ·show World.ownsRow _ _ _ _ _ _ _;rw [um];exact YH
 ·exact ⟨rfl,rfl,rfl,Zw _,fun _ _ _=>rfl⟩):p:=h
theorem Yx96 {p:Prop} (h:p:=by
 exact UK (p:=2) (u:=3) (v:=4) Zr _ _ w.heap.size 173 YZ (0,0) _ Zr (setRow_heap _ _ _ _ _ _ QJ) Tryz.underlying173 rfl ZB):p:=h
theorem Yx97 {p:Prop} (h:p:=by
 rw [qO];show _∈DataW.weights Tryz.prog 32 (.agg (xs.map (·.1)));unfold DataW.weights;rw [Tryz.underlying32];dsimp only;refine DataW.weights_mem_each (j:=4) (t:=9) (d:= .lit (.string s4.data.toList)) rfl ?_ _ (by simp [DataW.weights]);rw [List.getElem?_map,e4,gy4]
 rfl):p:=h
theorem bS {p:Prop} (h:p:=by
 have VA:Hid (X=((XT,0),1)):=by show _=_;rw [LR.o,ZR Zo]
 have dw:((Lg:Int) != (R:Int))=true:=by rw [RQ];omega
 exact bH):p:=h
theorem bT {p:Prop} (h:p:=by
 have VA:Hid (X=((XT,0),1)):=by show _=_;rw [LR.o,ZR Zo]
 have dh:decide (15<(m:Int))=true:=Wi Zo
 exact bH):p:=h
theorem fw {p:Prop} (h:p:=by
 go_enter Tryz.func171,Tryz.ntmps171;go_wp2_with (first|(go_at_call 155;refine CG.o.mono ?_;rintro e w' ⟨rfl,rfl⟩)|(go_at_call 182;refine HCZ.o.mono ?_;rintro e w' ⟨rfl,rfl⟩))
 go_ret2
 exact ⟨rfl,rfl⟩):p:=h
theorem fx {p:Prop} (h:p:=by
 rw [ai] at kj;clear ht ai;go_wp2_with (go_at_call 156;refine (CI.o _ (Z' _ _)).mono ?_;rintro e w1 ⟨rfl,rfl⟩)
 go_roundw
 case rel=>exact ⟨k+1,Zo,Zn,W8.trans ((Z' _ _).mono W8.size),HF.o⟩
 case measure=>simp [intOf];omega):p:=h
theorem fy {p:Prop} (h:p:=by
 obtain ⟨rfl,rfl⟩:=h0 rfl;have:news=[]:=BN (by rw [hl,Nat.zero_mul]);subst this;refine ⟨v,w,run_append_owned_none (P:=P) (w:=w) base t ty e i size E.ht hi v n xs YH,?_,⟨rfl,rfl,rfl,Zw _,fun _ _ _=>rfl⟩⟩
 rw [um];exact YH):p:=h
theorem mV {p:Prop} (h:p:=by
 clear HX;go_enter Tryz.func143,Tryz.ntmps143;go_wp2_with fail
 go_ret
 exact ⟨by rw [VA.o];rfl,rfl⟩):p:=h
theorem fA {p:Prop} (h:p:=by
 clear hR;go_enter Tryz.func110,Tryz.ntmps110;go_wp2_with (go_at_call 140;refine (C.o _ vN).mono ?_;rintro e w1 ⟨⟨tv,rfl,S3⟩,Xp,Wu⟩)
 go_ret
 exact Tj HF S3 Xp vN Wu):p:=h
theorem fB {p:Prop} (h:p:=by
 by_cases hx:x0=n
 ·have HF:=Zh (HH.o (by rw [hx];simp));subst hx;go_wp2;go_ret;exact ⟨YW HF.o.symm,W8.alloc W8.size _⟩
 ·have uE:(x0 == n)=false:=by rw [WR];exact hx
  have HF:=Zh (HM.o uE);clear hx
  exact jt):p:=h
theorem Yx108 {p:Prop} (h:p:=by
 have hl:s.data.toList.length=s.size:=(Lib.size_eq s).symm;have h1:=(KQ s.data.toList k).1 Zo;refine ⟨h1,?_,nH _ _ Zo,?_⟩
 ·rw [Gf _ _ Zo,decodeL_drop]
 ·rw [Vb h1,rn_at _ _ h1,decodeL_drop]):p:=h
theorem Yx110 {p:Prop} (h:p:=by
 have e:(w.alloc (.cells (Qa kd p n q (str nm) sa ss.length sc ba bl bc) 32)).heap.size=w.heap.size+1:=by show (w.heap.push _).size=_;rw [OI]
 rw [e] at h
 exact h):p:=h
theorem fC {p:Prop} (h:p:=by
 go_roundw
 case rel=>exact ⟨k+1,Zo,Zn,W8.trans (Y7.mono W8.size),OS TR Y7.size,Jz,fun j hj=>by by_cases JC:j<k;exact KA.o j JC;rw [show j=k by omega];exact HF.o⟩
 case measure=>simp [intOf];omega):p:=h
theorem Yx112 {p:Prop} (h:p:=by
 rw [show j / 7*7+j % 7=j by omega] at this;rw [this,←(hY (j / 7) hi).1 (j % 7) Zo];rw [KO ha];unfold Addr.add;split
 ·rename_i e;rw [show a.off+j=a.off+j / 7*7 by omega]
 ·rw [show a.off+j=a.off+j / 7*7+j % 7 by omega]):p:=h
theorem fD {p:Prop} (h:p:=by
 obtain ⟨g,off,cap,h1,h2,h3,h4,h5⟩:=h.open (by rw [VV];exact hl);refine ⟨g,off,cap,h1,h2,h3,h4,fun j hj=>?_⟩;rw [h5 j (by rw [VV];exact hj),SC,Vb hj]
 simp [YO,hj]):p:=h
theorem mW {p:Prop} (h:p:=by
 have h3:=T8.o.trans (T4.o.mono Zo (fun _ _ h=>h))
 exact (h3.alloc Zo _).grown HG.o Ug (YL Yh.o)):p:=h
theorem Yx115 {p:Prop} (h:p:=by
 exfalso
 have WK:(XN b).1 ≠ .XX l:=by
  unfold XN;split
  ·exact fun h=>by cases h
  split
  ·exact fun h=>by cases h
  split
  ·exact fun h=>by cases h
  split
  ·exact fun h=>by cases h
  ·exact fun h=>by cases h
 exact WK hv):p:=h
theorem fE {p:Prop} (h:p:=by
 show _=_;rw [mn.o,Z4];rw [List.any_eq_true];rintro ⟨x,hx,N7⟩;obtain ⟨j,hj,rfl⟩:=List.getElem_of_mem hx;have:=KA.o j Zo;rw [SC,Vb hj] at this
 simp at N7 this;omega):p:=h
theorem fF {p:Prop} (h:p:=by
 intro wS Uq;(try dsimp only at Uq)
 refine (XH 59 (.tmp 3) ?_ w.heap.size 0 ?_ (Qc p sr b f) _ Uq.1 Tryz.underlying59 rfl ZB).trans ?_
 all_goals rfl):p:=h
theorem mX {p:Prop} (h:p:=by
 (try dsimp only)
 first|exact Zz.o _ H3.o.Y8 pd|exact Zz.o _ H2.o.Y8 Sh|exact Zz.o _ H1d.o.Y8 dY):p:=h
theorem mY {p:Prop} (h:p:=by
 go_quiet (fail)
 have X8:=Zh (below_drewN HB.o nq);go_wp2_with fail
 go_ret
 exact ⟨by rw [HX.o];rfl,X8.o⟩):p:=h
theorem fG {p:Prop} (h:p:=by
 go_wp2;go_roundw
 case rel=>exact ⟨k+1,Zo,Zn,T8.o.alloc TR _,by rw [HF.o];exact Xy.o.below (Z' _ _),by rw [HF.o];exact Yh.o.alloc _⟩
 case measure=>simp [intOf];omega):p:=h
theorem fH {p:Prop} (h:p:=by
 have HF:Hid (Dc=0):=by
  show _=_;rw [HP4.o,Z4];rw [List.any_eq_true];rintro ⟨j,hj,hj2⟩;rw [KA.o j (by simp at hj;omega)] at hj2;cases hj2
 go_wp2;go_ret
 exact ⟨YW HF.o.symm,W8⟩):p:=h
theorem fI {p:Prop} (h:p:=by
 rw [show get (b.take (4+4*long b)) 4 4=get b 4 4 from Cc (p:=4) (q:=4) Zo hb Zo Zo]
 exact PU (b:=b) (m:=4*long b) (p:=0) (q:=4) Zo hb Zo Zo):p:=h
theorem fJ {p:Prop} (h:p:=by
 rw [show get (b.take (4+4*long b)) 8 4=get b 8 4 from Cc (p:=8) (q:=4) Zo hb Zo Zo]
 exact PU (b:=b) (m:=4*long b) (p:=4) (q:=4) Zo hb Zo Zo):p:=h
theorem fK {p:Prop} (h:p:=by
 obtain ⟨g_,qG⟩:=hcut;obtain ⟨va,vc,rfl,-,-⟩:=id g_;go_wp2;go_ret;rw [qx.o]
 exact ⟨⟨_,rfl,g_⟩,yV.o.below qG,eV.o.trans ((Fr.Z7 _ qG).mono GG (fun _ _ h=>h))⟩):p:=h
theorem fL {p:Prop} (h:p:=by
 go_enter Tryz.func83,Tryz.ntmps83;go_wp2_with fail
 refine (CP.o _).mono ?_;rintro e w1 ⟨rfl,rfl⟩;go_wp2_with fail
 refine (CN.o _).mono ?_
 exact Yx75):p:=h
theorem fM {p:Prop} (h:p:=by
 have dg:k=L.length:=by omega
 have hT:L.take k=L:=by rw [dg,nv]
 rw [hT] at Yh;clear hT ZY;go_wp2;go_ret;rw [HM0.o]
 exact ⟨⟨_,rfl,Row.Z6 Yh.o⟩,Xy.o,T8.o⟩):p:=h
theorem fN {p:Prop} (h:p:=by
 (try dsimp only)
 with_reducible first|exact Rz.o _ (ZF (YJ _ _).drew (Zw _) _)|exact Rz.o _ (Z3 (ZF (YJ _ _).drew (Zw _) _) (Zw _) _)):p:=h
theorem fO {p:Prop} (h:p:=by
 go_enter Tryz.func171,Tryz.ntmps171;go_wp2_with (go_at_call 155;refine CG.o.mono ?_;rintro e w' ⟨rfl,rfl⟩)
 go_ret2
 exact ⟨rfl,rfl⟩):p:=h
theorem fP {p:Prop} (h:p:=by
 go_quiet ((go_at_call 115;exact Calls.quiet_of_same (CL.o _)))
 have X8:=Zh (below_drewN HB.o nq);clear CL;go_wp2_with fail
 go_ret
 exact ⟨by rw [HX.o];rfl,X8.o⟩):p:=h
theorem fQ {p:Prop} (h:p:=by
 clear ZY;go_enter Tryz.func122,Tryz.ntmps122;go_wp2;go_ret
 exact ⟨YW HF.o.symm,Z' _ _⟩):p:=h
theorem fR {p:Prop} (h:p:=by
 clear HE E1;go_upto_region 9 with fail
 go_quiet (fail)
 go_wp2;go_roundw
 case rel=>exact ⟨q,Zo,rfl,aR.o,below_drewN Sy.o _,below_drewN HBEL2.o _⟩
 case measure=>simp [intOf]):p:=h
theorem Yx136 {p:Prop} (h:p:=by
 obtain ⟨g,off,cap,h1,_,_,_,h5⟩:=xH Yx 2 (fun _=>rfl) Zo h hl
 exact ⟨g,off,(slice_inj h1).1,fun i x hx=>⟨h5 i x hx 0 Zo,h5 i x hx 1 Zo⟩⟩):p:=h
theorem Yx137 {p:Prop} (h:p:=by
 rw [←g2];show W9 (W9 (opens R) ⟨1,o.peer,o.source,o.ZH,0⟩) t2=_;unfold W9;rw [Z4 (show ¬t2.kind=1 by omega),Z4 (show ¬t2.kind=2 by omega),ZR rfl]
 rfl):p:=h
theorem fS {p:Prop} (h:p:=by
 go_enter Tryz.func160,Tryz.ntmps160;go_wp2_with fail
 refine CO.o.mono ?_;rintro e w' ⟨rfl,rfl⟩;go_wp2_with fail
 go_ret3
 exact ⟨rfl,rfl⟩):p:=h
theorem fT {p:Prop} (h:p:=by
 exact VD (v:= .tuple (Qo (Qn 0 0 0) 2)) (by simp [results,Tryz.results152,go_sem]) rfl ⟨rfl,Z' _ _⟩):p:=h
theorem fU {p:Prop} (h:p:=by
 exact VD (v:= .tuple (Qo (Qn 0 0 0) 1)) (by simp [results,Tryz.results152,go_sem]) rfl ⟨rfl,Z' _ _⟩):p:=h
theorem fV {p:Prop} (h:p:=by
 have hn:(i:Int)<n:=by omega
 have h0:(0:Int)≤i:=by omega
 simp [Instr.index,asIntOf,Sem.run_bind,run_underlying h w,h0,hi,part,jY,sizeOf,typeInfo,hq,hH,hy]):p:=h
theorem fW {p:Prop} (h:p:=by
 go_enter Tryz.func141,Tryz.ntmps141;go_wp2;go_ret
 exact ⟨⟨_,rfl,by rw [HF.o];exact Row.nil _ _⟩,YJ _ _⟩):p:=h
theorem fX {p:Prop} (h:p:=by
 rw [Z4 e]
 have:(decide (m=n) && decide (q=p))=false:=by
  rw [KM];intro h;simp only [UR,Pz] at h;exact e h
 rw [this];rfl):p:=h
theorem fY {p:Prop} (h:p:=by
 have hT:L.take k=L:=FL Zo;rw [hT] at Yh;clear hT ZY;go_wp2;go_ret;rw [qu.o]
 exact ⟨⟨_,rfl,Row.Z6 Yh.o⟩,Vm.o,T8.o⟩):p:=h
theorem fZ {p:Prop} (h:p:=by
 refine ⟨h.Zg.setCell Zi _,?_,?_⟩
 ·have:=h.vR;simp [World.setCell,Array.getElem?_modify,this]
 ·have:=h.Y8
  simp [World.setCell,Array.getElem?_modify,this]):p:=h
theorem f_ {p:Prop} (h:p:=by
 clear ZY;go_enter Tryz.func134,Tryz.ntmps134;go_wp2;go_ret
 exact ⟨YW HF.o.symm,Z' _ _⟩):p:=h
end Go.Proofs
