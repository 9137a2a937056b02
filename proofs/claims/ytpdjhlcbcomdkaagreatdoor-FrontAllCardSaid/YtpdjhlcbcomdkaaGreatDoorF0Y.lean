/- Constants that stand for the ends of walks. -/
import Derived.Test.YtpdjhlcbcomdkaaGreatDoorF00
set_option linter.unusedVariables false
namespace Go
theorem Yt1 {p:Prop} (h:p:=by
 refine VR (v:= .tuple (Qy (Qb false 0 0 0 0 none 0 0 false 0 none 0 0 none 0 0 0) 0 0 2)) ?_ rfl ?_
 ·exact Vu (p:=2) (u:=3) (v:=4) (x:=5) Zr _ _ w.heap.size 79 (Qb false 0 0 0 0 none 0 0 false 0 none 0 0 none 0 0 0) (0,0) _ Zr (setRow_heap _ _ _ _ _ _ VD) Tryz.underlying79 rfl Zk
 first|exact Vj.o _ 2 HP.o.YI SM.o|(obtain ⟨⟨a,f,t,k1,k2⟩,k3⟩:=Vj.o _ 2 HP.o.YI SM.o;exact ⟨⟨a,⟨f,t,k1⟩,k2⟩,k3⟩)):p:=h
theorem xg {p:Prop} (h:p:=by
 (try dsimp only)
 first|exact mR.o.pk.YI|exact HP6.o.YI|exact ug.o.YI|exact JW.o.pk.YI):p:=h
theorem Yt3 {p:Prop} (h:p:=by
 go_wp2_with fail
 refine hK.out _ _ ?_ (fun XX=>?_)
 ·exact OU.o _ Ds.o
 clear hK K
 try simp only [Z3.pt]
 refine TR 2 (h:=fun K hK=>?_)
 go_simp
 refine hK.out _ _ ?_ (fun Wo=>?_)
 ·exact OU.o _ Ds.o
 clear hK K
 try simp only [Z3.pt]
 refine YA 6 (h:=?_)
 refine YHE (h:=?_)
 refine Py ?_
 obtain ⟨UD,eY⟩:=Vj.o wA (Qd 0 false false 0) Ds.o
 go_wp2_with (with_reducible refine ZY 81 (.tmp 2) (.tmp 42) rfl ?_;refine Zs UD ?_)
 refine VR (v:= .tuple (Qn (Qd 0 false false 0) 1)) ?_ rfl ?_
 ·exact Vs (p:=2) (u:=3) Zr _ _ w.heap.size 81 (Qd 0 false false 0) (0,0) _ Zr (setRow_heap _ _ _ _ _ _ UD) Tryz.underlying81 rfl Zk
 rw [HX.o]
 exact ⟨rfl,eY⟩):p:=h
theorem eN {p:Prop} (h:p:=by
 (try dsimp only)
 (first|exact J0.o _ (Fr.Z9 _ WK)|exact J0.o _ (Fr.setAt (Fr.Z9 _ WK) _ _)|go_keep)):p:=h
theorem aB {p:Prop} (h:p:=by
 (try dsimp only)
 first|exact ZC.o _ wR.o|exact ZC.o _ kp.o|exact ZC.o _ uE.o|exact ZC.o _ JG.o|exact ZC.o _ (YG _ _).drew):p:=h
theorem Yt6 {p:Prop} (h:p:=by
 have Bw:tmps[p]?.getD undef = .pointer (some ⟨g,0,none⟩):=by simpa using hp
 simp [results,h,Bw,asAddr,run_loadVar_row w g t ty cs fr d hg hu hd hi]):p:=h
theorem gS {p:Prop} (h:p:=by
 go_wp2
 go_quiet (fail)
 go_wp2
 go_ret
 exact ⟨YB yD,below_drewN TK _⟩):p:=h
theorem Yt8 {p:Prop} (h:p:=by
 exact Vs (p:=2) (u:=3) Zr _ _ w.heap.size 84 (Qh 0 false 0 0 0 0 none 0 0 false 0 none 0 0 none 0 0 0 0 false false 0 none 0 0) (0,0) _ Zr (setRow_heap _ _ _ _ _ _ y0) Tryz.underlying84 rfl Zk):p:=h
theorem Yt9 {p:Prop} (h:p:=by
 exact Oo (p:=2) (q:=3) (u:=4) Zr _ _ w.heap.size (w.heap.size+1) 79 81 (Qb false 0 0 0 0 none 0 0 false 0 none 0 0 none 0 0 0) (Qd 0 false false 0) (0,0) (0,0) _ _ Zr Zr ((setRow_other _ _ _ _ Zo).trans (setRow_heap _ _ _ _ _ _ y0)) (setRow_heap _ _ _ _ _ _ ((setRow_other _ _ _ _ Zo).trans y1)) Tryz.underlying79 Tryz.underlying81 rfl rfl Zk Zk):p:=h
theorem qM {p:Prop} (h:p:=by
 rcases Nat.lt_or_ge g w2.heap.size with h|h
 ·exact h
 ·rw [Gt h] at Jt;cases Jt):p:=h
theorem gK {p:Prop} (h:p:=by
 exact Vt (p:=2) (u:=3) (v:=4) Zr _ _ w.heap.size 173 Y9 (0,0) _ Zr (setRow_heap _ _ _ _ _ _ UD) Tryz.underlying173 rfl Zg):p:=h
theorem au {p:Prop} (h:p:=by
 exact Vt (p:=2) (u:=3) (v:=4) Zr _ _ w.heap.size 173 (Qc i.kind i.X5 i.JA i.time i.Xv i.octets xa i.blocks.length xc ya i.gone.length yc i.Ye za i.XV.length zc) (0,0) _ Zr (setRow_heap _ _ _ _ _ _ BD) Tryz.underlying173 rfl Zg):p:=h
theorem aw {p:Prop} (h:p:=by
 have e:=HI.o Zo
 have E:=Zh e
 clear e
 go_wp2
 go_roundw
 case rel=>
  refine ⟨k+1,hb,Zn,Zo,?_⟩
  rw [←HS.o,E.o,dS _ _ (by rw [ey.o];exact hk) _ (by rw [FJ _ _ (by rw [HL.o];exact hk),HX.o])]
  exact HR.o
 case measure=>simp [intOf];omega):p:=h
theorem gL {p:Prop} (h:p:=by
 exact results_cell_row Zr _ _ (w.heap.size+1) 100 cs.toArray (0,0) _ Zr (setRow_heap _ _ _ _ _ _ Ki) Tryz.underlying100 rfl hi):p:=h
theorem nj {p:Prop} (h:p:=by
 go_enter Tryz.func150,Tryz.ntmps150
 go_wp2
 go_ret
 exact ⟨YB HF.o.symm,rfl⟩):p:=h
theorem np {p:Prop} (h:p:=by
 intro h
 have:a=none:=by
  split at h
  ·exact h
  ·simpa using h
 have:=h0 this
 omega):p:=h
theorem ax {p:Prop} (h:p:=by
 go_wp2_with (go_at_call 149;refine CD.o.mono ?_;rintro e w' ⟨rfl,Y0⟩)
 go_roundw
 case rel=>exact ⟨k+1,hb.trans (Y0.mono hb.size),Zn,by rw [H2.o];go_num,Zo,Lu Vc.o H4.o HG.o⟩
 case measure=>simp [intOf];omega):p:=h
theorem nr {p:Prop} (h:p:=by
 go_wp2
 go_ret
 exact ⟨⟨_,rfl,by rw [HL.o,HH1.o];exact Us _ _ _ _⟩,YG _ _⟩):p:=h
theorem nu {p:Prop} (h:p:=by
 rcases Nat.lt_or_ge g w.heap.size with h|h
 ·exact h
 ·rw [Gt h] at hh;cases hh):p:=h
theorem nv {p:Prop} (h:p:=by
 go_ret
 exact ⟨Y5 HF.o.symm,(Z' _ _).trans (Zj.mono Zi)⟩):p:=h
theorem ay {p:Prop} (h:p:=by
 go_roundw
 case rel=>exact ⟨j+1,T,Zo,Zn,by rw [HZ.o],JV.o.trans (Fr.Z9 _ (T9.o.mono JV.o.size)),VW.o.below T9.o,by rw [HZ.o];exact OJ.o⟩
 case measure=>simp [intOf];omega):p:=h
theorem gM {p:Prop} (h:p:=by
 exact UW.fin (T':=_) vt.o (by simp [UX.add,Yt,Vf]) kb og.o OJ.o nW.o W_ y1):p:=h
theorem ny {p:Prop} (h:p:=by
 refine ⟨⟨_,rfl,?_⟩,hb.below⟩
 have:=HO.o
 rwa [OD,KF] at this):p:=h
theorem gN {p:Prop} (h:p:=by
 rcases KG.1 ht with rfl|ht
 ·exact ⟨by simp,by simp,Wj ho⟩
 ·exact CX t ht):p:=h
theorem gP {p:Prop} (h:p:=by
 rcases Nat.lt_or_ge gs W6.heap.size with h|h
 ·exact h
 ·simp [World.cell?,Gt h] at s4):p:=h
theorem az {p:Prop} (h:p:=by
 subst hm
 exact ⟨hl,.inr ⟨w,n,xs.toArray,rfl,hB,(by show (w.heap.push _)[w.heap.size]?=_;simp),ZB _,hn,by simp [hl],by rw [I8 (by simp [hl])]⟩⟩):p:=h
theorem gQ {p:Prop} (h:p:=by
 go_ret2
 rw [HF.o]
 exact ⟨⟨_,rfl,Row.nil _ _⟩,HR.o _ Zj,Fr.Z9 _ Zj⟩):p:=h
theorem aA {p:Prop} (h:p:=by
 exact Vu (p:=2) (u:=3) (v:=4) (x:=5) Zr _ _ w.heap.size 79 (Qb false 0 0 0 0 none 0 0 false 0 none 0 0 none 0 0 0) (0,0) _ Zr (setRow_heap _ _ _ _ _ _ VD) Tryz.underlying79 rfl Zk):p:=h
end Go
