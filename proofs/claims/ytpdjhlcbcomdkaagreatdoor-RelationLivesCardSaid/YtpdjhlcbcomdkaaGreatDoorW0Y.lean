/- Constants that stand for the ends of walks. -/
import Derived.Test.YtpdjhlcbcomdkaaGreatDoorW00
set_option linter.unusedVariables false
namespace Go
theorem Yt1 {p:Prop} (h:p:=by
 have vQ:Hid (Below w1 w1 w1.drew):=(YH _ _).drew
 have M3:Hid (Below w w w1.drew):=VQ.o.drew
 refine Sd ?_
 refine Z_.Zu (d:=8) (S:=(fun w'=>Below w1 w1 w')) Zk ?_ (fun X_=>?_)
 ·(try dsimp only)
  exact vQ.o
 refine YP 0 (h:=YP 2 (h:=?_))
 refine YR 1 (h:=fun K hK=>?_)
 go_simp
 refine (CA.o _ w1.drew (HT.o _ M3.o) (HO.o.below vQ.o)).mono ?_
 rintro e wa ⟨⟨aa,ac,rfl,bf⟩,UF⟩
 have jw:=Zh bf
 replace vQ:Hid (Below w1 w1 wa):=vQ.o.trans (UF.mono vQ.o.size)
 replace M3:Hid (Below w w wa):=M3.o.trans (UF.mono M3.o.size)
 clear bf UF
 go_wp2_with fail
 refine Z_.Y_ hK _ _ ?_ (fun XC=>?_)
 ·(try dsimp only)
  exact vQ.o
 clear hK K
 try simp only [Z_.pt]
 refine YR 3 (h:=fun K hK=>?_)
 go_simp
 refine (CY.o _ wa (HT.o _ M3.o) (HO.o.below vQ.o)).mono ?_
 rintro e wy ⟨⟨k,ba,bc,rfl,c1,hrb⟩,yS⟩
 have bY:=Zh hrb
 replace jw:=Zh (Row.below jw.o yS)
 replace vQ:Hid (Below w1 w1 wy):=vQ.o.trans (yS.mono vQ.o.size)
 replace M3:Hid (Below w w wy):=M3.o.trans (yS.mono M3.o.size)
 clear hrb yS
 go_wp2_with fail
 refine Z_.Y_ hK _ _ ?_ (fun VE=>?_)
 ·(try dsimp only)
  exact vQ.o
 clear hK K
 try simp only [Z_.pt]
 refine YP 4 (h:=YP 5 (h:=YP 7 (h:=?_)))
 refine YR 6 (h:=fun K hK=>?_)
 go_simp
 refine Z_.Y_ hK _ _ ?_ (fun OD=>?_)
 ·(try dsimp only)
  exact vQ.o
 clear hK K
 try simp only [Z_.pt]
 refine YR 8 (h:=fun K hK=>?_)
 go_simp
 refine Z_.Ye hK _ _ Zk ?_
 clear hK K
 try simp only [Z_.pt]
 refine Z_.Yr Zk ?_ _
 refine QY ?_
 go_wp2_with fail
 go_meet
 exact ⟨aa,ac,ba,bc,rfl,rfl,jw.o,bY.o,M3.o⟩):p:=h
theorem Yt2 {p:Prop} (h:p:=by
 refine VJ (v:= .tuple (Qx (Qb false 0 0 0 0 none 0 0 false 0 none 0 0 none 0 0 0) 0 0 2)) ?_ rfl ?_
 ·exact UU (p:=2) (u:=3) (v:=4) (x:=5) Zr _ _ w.heap.size 79 (Qb false 0 0 0 0 none 0 0 false 0 none 0 0 none 0 0 0) (0,0) _ Zr (setRow_heap _ _ _ _ _ _ UN) Tryz.underlying79 rfl Zk
 first|exact UL.o _ 2 HP.o.Zj Vs.o|(obtain ⟨⟨a,f,t,k1,k2⟩,k3⟩:=UL.o _ 2 HP.o.Zj Vs.o;exact ⟨⟨a,⟨f,t,k1⟩,k2⟩,k3⟩)):p:=h
theorem uK {p:Prop} (h:p:=by
 (try dsimp only)
 first|exact jt.o.pk.Zj|exact HP6.o.Zj|exact q9.o.Zj|exact I3.o.pk.Zj):p:=h
theorem Yt4 {p:Prop} (h:p:=by
 go_wp2_with fail
 refine hK.out _ _ ?_ (fun XC=>?_)
 ·exact RV.o _ BK.o
 clear hK K
 try simp only [Z_.pt]
 refine Si 2 (h:=fun K hK=>?_)
 go_simp
 refine hK.out _ _ ?_ (fun VE=>?_)
 ·exact RV.o _ BK.o
 clear hK K
 try simp only [Z_.pt]
 refine YA 6 (h:=?_)
 refine YHE (h:=?_)
 refine QY ?_
 obtain ⟨Ub,kN⟩:=UL.o wA (Qc 0 false false 0) BK.o
 go_wp2_with (with_reducible refine ZU 81 (.tmp 2) (.tmp 42) rfl ?_;refine Zs Ub ?_)
 refine VJ (v:= .tuple (Qo (Qc 0 false false 0) 1)) ?_ rfl ?_
 ·exact UR (p:=2) (u:=3) Zr _ _ w.heap.size 81 (Qc 0 false false 0) (0,0) _ Zr (setRow_heap _ _ _ _ _ _ Ub) Tryz.underlying81 rfl Zk
 rw [HX.o]
 exact ⟨rfl,kN⟩):p:=h
theorem aM {p:Prop} (h:p:=by
 (try dsimp only)
 (first|exact I7.o _ (Fr.Z8 _ Wd)|exact I7.o _ (Fr.setAt (Fr.Z8 _ Wd) _ _)|go_keep)):p:=h
theorem Yt6 {p:Prop} (h:p:=by
 have tq:tmps[p]?.getD undef = .pointer (some ⟨g,0,none⟩):=by simpa using hp
 simp [results,h,tq,asAddr,run_loadVar_row w g t ty cs fr d hg hu hd hi]):p:=h
theorem Yt7 {p:Prop} (h:p:=by
 exact UR (p:=2) (u:=3) Zr _ _ w.heap.size 84 (Ql 0 false 0 0 0 0 none 0 0 false 0 none 0 0 none 0 0 0 0 false false 0 none 0 0) (0,0) _ Zr (setRow_heap _ _ _ _ _ _ y0) Tryz.underlying84 rfl Zk):p:=h
theorem Yt8 {p:Prop} (h:p:=by
 exact NH (p:=2) (q:=3) (u:=4) Zr _ _ w.heap.size (w.heap.size+1) 79 81 (Qb false 0 0 0 0 none 0 0 false 0 none 0 0 none 0 0 0) (Qc 0 false false 0) (0,0) (0,0) _ _ Zr Zr ((setRow_other _ _ _ _ Zo).trans (setRow_heap _ _ _ _ _ _ y0)) (setRow_heap _ _ _ _ _ _ ((setRow_other _ _ _ _ Zo).trans y1)) Tryz.underlying79 Tryz.underlying81 rfl rfl Zk Zk):p:=h
theorem Yt9 {p:Prop} (h:p:=by
 rcases Nat.lt_or_ge g w2.heap.size with h|h
 ·exact h
 ·rw [Fm h] at JM;cases JM):p:=h
theorem ct {p:Prop} (h:p:=by
 exact UT (p:=2) (u:=3) (v:=4) Zr _ _ w.heap.size 173 YY (0,0) _ Zr (setRow_heap _ _ _ _ _ _ Ub) Tryz.underlying173 rfl ZB):p:=h
theorem Yt11 {p:Prop} (h:p:=by
 exact UT (p:=2) (u:=3) (v:=4) Zr _ _ w.heap.size 173 (Qd i.kind i.Yy i.Iw i.time i.WZ i.octets xa i.blocks.length xc ya i.gone.length yc i.X7 za i.XF.length zc) (0,0) _ Zr (setRow_heap _ _ _ _ _ _ vh) Tryz.underlying173 rfl ZB):p:=h
theorem Yt12 {p:Prop} (h:p:=by
 have e:=HI.o Zo
 have E:=Zh e
 clear e
 go_wp2
 go_roundw
 case rel=>
  refine ⟨k+1,hb,Zn,Zo,?_⟩
  rw [←HS.o,E.o,setid _ _ (by rw [qW.o];exact hk) _ (by rw [EF _ _ (by rw [HL.o];exact hk),HX.o])]
  exact HR.o
 case measure=>simp [intOf];omega):p:=h
theorem cx {p:Prop} (h:p:=by
 exact results_cell_row Zr _ _ (w.heap.size+1) 100 cs.toArray (0,0) _ Zr (setRow_heap _ _ _ _ _ _ JR) Tryz.underlying100 rfl hi):p:=h
theorem Yt14 {p:Prop} (h:p:=by
 have Al:(j:Int)<(l.length:Int):=Ou.2 S4
 clear ra rb hz Wn
 go_wp2_with fail
 go_quiet (fail)
 have lT:=Zh (below_drewN HBJ.o nq)
 go_wp2_with fail
 go_roundw
 case rel=>exact ⟨j+1,Zo,Zn,lT.o⟩
 case measure=>simp [intOf];omega):p:=h
theorem jN {p:Prop} (h:p:=by
 go_enter Tryz.func150,Tryz.ntmps150
 go_wp2
 go_ret
 exact ⟨Xy HF.o.symm,rfl⟩):p:=h
theorem jO {p:Prop} (h:p:=by
 intro h
 have:a=none:=by
  split at h
  ·exact h
  ·simpa using h
 have:=h0 this
 omega):p:=h
theorem Yt17 {p:Prop} (h:p:=by
 go_wp2_with (go_at_call 149;refine CD.o.mono ?_;rintro e w' ⟨rfl,Y0⟩)
 go_roundw
 case rel=>exact ⟨k+1,hb.trans (Y0.mono hb.size),Zn,by rw [H2.o];go_num,Zo,K6 UE.o H4.o HG.o⟩
 case measure=>simp [intOf];omega):p:=h
theorem jP {p:Prop} (h:p:=by
 go_wp2
 go_ret
 exact ⟨⟨_,rfl,by rw [HL.o,HH1.o];exact Ua _ _ _ _⟩,YH _ _⟩):p:=h
theorem jQ {p:Prop} (h:p:=by
 go_ret
 exact ⟨YW HF.o.symm,(Z' _ _).trans (YZ.mono Zi)⟩):p:=h
theorem jR {p:Prop} (h:p:=by
 go_quiet ((go_at_call 115;exact Calls.quiet_of_same (CL.o _)))
 exact nT):p:=h
theorem Yt21 {p:Prop} (h:p:=by
 go_roundw
 case rel=>exact ⟨j+1,T,Zo,Zn,by rw [HZ.o],Ie.o.trans (Fr.Z8 _ (R4.o.mono Ie.o.size)),Vr.o.below R4.o,by rw [HZ.o];exact MV.o⟩
 case measure=>simp [intOf];omega):p:=h
theorem cy {p:Prop} (h:p:=by
 exact Un.fin (T':=_) sP.o (by simp [O7.add,Yf,UJ]) kb kJ.o MV.o kC.o VR y1):p:=h
theorem jS {p:Prop} (h:p:=by
 refine ⟨⟨_,rfl,?_⟩,hb.below⟩
 have:=HO.o
 rwa [QP,Jy] at this):p:=h
theorem cz {p:Prop} (h:p:=by
 rcases Mg.1 ht with rfl|ht
 ·exact ⟨by simp,by simp,Wi ho⟩
 ·exact Bp t ht):p:=h
theorem cA {p:Prop} (h:p:=by
 rcases Nat.lt_or_ge gs W6.heap.size with h|h
 ·exact h
 ·simp [World.cell?,Fm h] at s4):p:=h
theorem Yt26 {p:Prop} (h:p:=by
 subst hm
 exact ⟨hl,.inr ⟨w,n,xs.toArray,rfl,hB,(by show (w.heap.push _)[w.heap.size]?=_;simp),Zw _,hn,by simp [hl],by rw [F5 (by simp [hl])]⟩⟩):p:=h
theorem cB {p:Prop} (h:p:=by
 go_ret2
 rw [HF.o]
 exact ⟨⟨_,rfl,Row.nil _ _⟩,HR.o _ YZ,Fr.Z8 _ YZ⟩):p:=h
theorem Yt28 {p:Prop} (h:p:=by
 exact UU (p:=2) (u:=3) (v:=4) (x:=5) Zr _ _ w.heap.size 79 (Qb false 0 0 0 0 none 0 0 false 0 none 0 0 none 0 0 0) (0,0) _ Zr (setRow_heap _ _ _ _ _ _ UN) Tryz.underlying79 rfl Zk):p:=h
end Go
