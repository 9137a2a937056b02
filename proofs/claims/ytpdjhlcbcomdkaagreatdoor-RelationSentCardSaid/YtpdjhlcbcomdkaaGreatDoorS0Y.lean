import Derived.Test.YtpdjhlcbcomdkaaGreatDoorS00
set_option linter.all false
namespace Go
def Yt1{p:Prop} (h:p:=by
 refine Vr (v:= .tuple (Q0 (Qc false 0 0 0 0 none 0 0 false 0 none 0 0 none 0 0 0) 0 0 2)) ?_ rfl ?_
 ·exact Uy (p:=2) (u:=3) (v:=4) (x:=5) Zr _ _ w 79 (Qc false 0 0 0 0 none 0 0 false 0 none 0 0 none 0 0 0) (0,0) _ Zr (setRow_heap _ _ _ _ _ _ Uu) Tryz.underlying79 rfl Zk
 first|exact Ur.o _ 2 HP.o.Za Vc.o|(obtain⟨⟨a,f,t,k1,k2⟩,k3⟩:=Ur.o _ 2 HP.o.Za Vc.o;exact⟨⟨a,⟨f,t,k1⟩,k2⟩,k3⟩)):p:=h
def rB{p:Prop} (h:p:=by
 (try dsimp only)
 first|exact dx.o.pk.Za|exact HP6.o.Za|exact m_.o.Za|exact Hg.o.pk.Za):p:=h
def Yt3{p:Prop} (h:p:=by
 go_wp2_with fail
 refine hK.out _ _ ?_ (fun XC=>?_)
 ·exact SI.o _ zT.o
 clear hK K;try simp only[Go.Proofs.By.pt]
 refine Rv 2 (h:=fun K hK=>?_);go_simp;refine hK.out _ _ ?_ (fun Vq=>?_)
 ·exact SI.o _ zT.o
 clear hK K;try simp only[Go.Proofs.By.pt]
 refine YA 6 (h:=?_);refine YHE (h:=?_);refine QP ?_;obtain⟨TS,rM⟩:=Ur.o wA (Qd 0 false false 0) zT.o;go_wp2_with (with_reducible refine Zs TS ?_)
 refine Vr (v:= .tuple (Qo (Qd 0 false false 0) 1)) ?_ rfl ?_
 ·exact Ux (p:=2) (u:=3) Zr _ _ w 81 (Qd 0 false false 0) (0,0) _ Zr (setRow_heap _ _ _ _ _ _ TS) Tryz.underlying81 rfl Zk
 rw[HX.o]
 exact⟨rfl,rM⟩):p:=h
def Yt4{p:Prop} (h:p:=by
 have pJ:tmps[p]?.getD undef = .pointer (some ⟨g,0,none⟩):=by simpa using hp
 simp[results,h,pJ,asAddr,run_loadVar_row w g t ty cs fr d hg hu hd hi]):p:=h
def Yt5{p:Prop} (h:p:=by
 exact Ux (p:=2) (u:=3) Zr _ _ w 84 (Qj 0 false 0 0 0 0 none 0 0 false 0 none 0 0 none 0 0 0 0 false false 0 none 0 0) (0,0) _ Zr (setRow_heap _ _ _ _ _ _ y0) Tryz.underlying84 rfl Zk):p:=h
def Yt6{p:Prop} (h:p:=by
 exact MQ (p:=2) (q:=3) (u:=4) Zr _ _ w (w.heap.size+1) 79 81 (Qc false 0 0 0 0 none 0 0 false 0 none 0 0 none 0 0 0) (Qd 0 false false 0) (0,0) (0,0) _ _ Zr Zr ((setRow_other _ _ _ _ Zo).trans (setRow_heap _ _ _ _ _ _ y0)) (setRow_heap _ _ _ _ _ _ ((setRow_other _ _ _ _ Zo).trans y1)) Tryz.underlying79 Tryz.underlying81 rfl rfl Zk Zk):p:=h
def Yt7{p:Prop} (h:p:=by
 go_wp2_with (first|with_reducible refine Zl HZ.o Tryz.underlying59 ?_|(go_at_call 57;refine(CI.o _ HB.o).mono ?_;rintro e w2 ⟨rfl,Y7⟩;have Yc:Hid (Below w w w2):=Tr HB Y7;have vQ:=Zh ((Y7.block _ (ZY HZ.o)).trans HZ.o);clear Y7))
 go_ret
 exact⟨rfl,Yc.o⟩):p:=h
def Yt8{p:Prop} (h:p:=by
 rcases Nat.lt_or_ge g w2 with h|h
 ·exact h
 ·rw[DT h]at Hz;cases Hz):p:=h
def Yt9{p:Prop} (h:p:=by
 intro h
 have:a=none:=by
  split at h
  ·exact h
  ·simpa using h
 have:=h0 this
 omega):p:=h
def dR{p:Prop} (h:p:=by
 go_wp2;go_ret
 exact⟨⟨_,rfl,by rw[HL.o,HH1.o];exact TH _ _ _ _⟩,YE _ _⟩):p:=h
def Yt11{p:Prop} (h:p:=by
 go_upto_region 13 with fail
 go_quiet (fail)
 have np:=Zh (HK8.o nq).1;go_wp2_with fail
 go_roundw
 case rel=>exact⟨m+1,ov,oc,Zo,Zo,Zn,by rw[HE.o],by rw[HE.o],by rw[HE.o];exact np.o⟩
 case measure=>simp[intOf];omega):p:=h
def dS{p:Prop} (h:p:=by
 go_ret
 exact⟨dr HF.o.symm,(Z' _ _).trans (YV.mono Zi)⟩):p:=h
def dU{p:Prop} (h:p:=by
 go_quiet ((go_at_call 115;exact Calls.quiet_of_same (CL.o _)))
 exact jy):p:=h
def Yt14{p:Prop} (h:p:=by
 go_roundw
 case rel=>exact⟨j+1,T,Zo,Zn,by rw[HZ.o],Gv.o.trans (Fr.Z8 _ (Ri.o.mono Gv.o.size)),Vb.o.below Ri.o,by rw[HZ.o];exact L6.o⟩
 case measure=>simp[intOf];omega):p:=h
def Yt15{p:Prop} (h:p:=by
 exact TV.fin (T':=_) pj.o (by simp[QN.add,Ya,Uo]) kb fq.o L6.o eW.o Vz y1):p:=h
def dV{p:Prop} (h:p:=by
 refine⟨⟨_,rfl,?_⟩,hb.below⟩;have:=HO.o
 rwa[PA,IC]at this):p:=h
def Yt17{p:Prop} (h:p:=by
 rcases K5.1 ht with rfl|ht
 ·exact⟨by simp,by simp,WG ho⟩
 ·exact zE t ht):p:=h
def Yt18{p:Prop} (h:p:=by
 rcases Nat.lt_or_ge gs W6 with h|h
 ·exact h
 ·simp[World.cell?,DT h]at s4):p:=h
def Yt19{p:Prop} (h:p:=by
 subst hm
 exact⟨hl,.inr ⟨w,n,xs.toArray,rfl,hB,(by show(w.heap.push _)[w.heap.size]?=_;simp),Zq _,hn,by simp[hl],by rw[Ex (by simp[hl])]⟩⟩):p:=h
def Yt20{p:Prop} (h:p:=by
 go_ret2
 rw[HF.o]
 exact⟨⟨_,rfl,Row.nil _ _⟩,HR.o _ YV,Fr.Z8 _ YV⟩):p:=h
def Yt21{p:Prop} (h:p:=by
 intro wS Ud;(try dsimp only at Ud)
 refine VG 59 (.tmp 7) ?_ kz ?_ 59 (Qb zp zs zb zf) (0,0) _ Ud Tryz.underlying59 rfl Zk
 all_goals rfl):p:=h
def Yt22{p:Prop} (h:p:=by
 exact Uy (p:=2) (u:=3) (v:=4) (x:=5) Zr _ _ w 79 (Qc false 0 0 0 0 none 0 0 false 0 none 0 0 none 0 0 0) (0,0) _ Zr (setRow_heap _ _ _ _ _ _ Uu) Tryz.underlying79 rfl Zk):p:=h
end Go
