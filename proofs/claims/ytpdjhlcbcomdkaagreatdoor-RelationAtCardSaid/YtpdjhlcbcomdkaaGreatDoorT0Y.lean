/- Constants that stand for the ends of walks. -/
import Derived.Test.YtpdjhlcbcomdkaaGreatDoorT00
set_option linter.unusedVariables false
namespace Go
theorem Yt1{p:Prop} (h:p:=by
 refine VD (v:= .tuple (Qz (Qc false 0 0 0 0 none 0 0 false 0 none 0 0 none 0 0 0) 0 0 2)) ?_ rfl ?_
 ·exact UM (p:=2) (u:=3) (v:=4) (x:=5) Zr _ _ w 79 (Qc false 0 0 0 0 none 0 0 false 0 none 0 0 none 0 0 0) (0,0) _ Zr (setRow_heap _ _ _ _ _ _ UH) Tryz.underlying79 rfl Zk
 first|exact UF.o _ 2 HP.o.Zf VC.o|(obtain⟨⟨a,f,t,k1,k2⟩,k3⟩:=UF.o _ 2 HP.o.Zf VC.o;exact⟨⟨a,⟨f,t,k1⟩,k2⟩,k3⟩)):p:=h
theorem rV{p:Prop} (h:p:=by
 (try dsimp only)
 first|exact eN.o.pk.Zf|exact HP6.o.Zf|exact nW.o.Zf|exact Hr.o.pk.Zf):p:=h
theorem Yt3{p:Prop} (h:p:=by
 (try dsimp only)
 first|exact ZB.o _ bC.o|exact ZB.o _ jt.o|exact ZB.o _ HCD.o|exact ZB.o _ BU.o|exact ZB.o _ js.o|exact ZB.o _ HCA.o|exact ZB.o _ DZ.o.drew):p:=h
theorem Yt4{p:Prop} (h:p:=by
 intro wS Ub;(try dsimp only at Ub)
 refine Vh 59 (.tmp 10) ?_ kz ?_ 59 (Qb zp zs zb zf) (0,0) _ Ub Tryz.underlying59 rfl Zk
 all_goals rfl):p:=h
theorem Yt5{p:Prop} (h:p:=by
 go_wp2_with fail
 refine hK.out _ _ ?_ (fun XC=>?_)
 ·exact Rv.o _ Ai.o
 clear hK K;try simp only[Z_.pt]
 refine R3 2 (h:=fun K hK=>?_);go_simp;refine hK.out _ _ ?_ (fun Vz=>?_)
 ·exact Rv.o _ Ai.o
 clear hK K;try simp only[Z_.pt]
 refine YA 6 (h:=?_);refine YHE (h:=?_);refine QZ ?_;obtain⟨TZ,gG⟩:=UF.o wA (Qd 0 false false 0) Ai.o;go_wp2_with (with_reducible refine Zs TZ ?_)
 refine VD (v:= .tuple (Qo (Qd 0 false false 0) 1)) ?_ rfl ?_
 ·exact UK (p:=2) (u:=3) Zr _ _ w 81 (Qd 0 false false 0) (0,0) _ Zr (setRow_heap _ _ _ _ _ _ TZ) Tryz.underlying81 rfl Zk
 rw[HX.o]
 exact⟨rfl,gG⟩):p:=h
theorem Yt6{p:Prop} (h:p:=by
 go_wp2_with (first|(with_reducible refine Zl HZ.o Tryz.underlying59 ?_)|(go_at_call 57;refine(CI.o _ HB.o).mono ?_;rintro e w2 ⟨rfl,Zb⟩;have Yg:Hid (Below w w w2):=Tr HB Zb;have oY:=Zh ((Zb.block _ (ZX HZ.o)).trans HZ.o);clear Zb))
 go_ret
 exact⟨rfl,Yg.o⟩):p:=h
theorem Yt7{p:Prop} (h:p:=by
 (try dsimp only)
 (first|exact Hv.o _ (Fr.Z6 _ V8)|exact Hv.o _ (Fr.setAt (Fr.Z6 _ V8) _ _)|go_keep)):p:=h
theorem Yt8{p:Prop} (h:p:=by
 have qj:tmps[p]?.getD undef = .pointer (some ⟨g,0,none⟩):=by simpa using hp
 simp[results,h,qj,asAddr,run_loadVar_row w g t ty cs fr d hg hu hd hi]):p:=h
theorem Yt9{p:Prop} (h:p:=by
 exact UK (p:=2) (u:=3) Zr _ _ w 84 (Ql 0 false 0 0 0 0 none 0 0 false 0 none 0 0 none 0 0 0 0 false false 0 none 0 0) (0,0) _ Zr (setRow_heap _ _ _ _ _ _ y0) Tryz.underlying84 rfl Zk):p:=h
theorem Yt10{p:Prop} (h:p:=by
 exact M9 (p:=2) (q:=3) (u:=4) Zr _ _ w (w.heap.size+1) 79 81 (Qc false 0 0 0 0 none 0 0 false 0 none 0 0 none 0 0 0) (Qd 0 false false 0) (0,0) (0,0) _ _ Zr Zr ((setRow_other _ _ _ _ Zo).trans (setRow_heap _ _ _ _ _ _ y0)) (setRow_heap _ _ _ _ _ _ ((setRow_other _ _ _ _ Zo).trans y1)) Tryz.underlying79 Tryz.underlying81 rfl rfl Zk Zk):p:=h
theorem ki{p:Prop} (h:p:=by
 rcases Nat.lt_or_ge g w2 with h|h
 ·exact h
 ·rw[D_ h]at Ij;cases Ij):p:=h
theorem Yt12{p:Prop} (h:p:=by
 exact UL (p:=2) (u:=3) (v:=4) Zr _ _ w 173 Ya (0,0) _ Zr (setRow_heap _ _ _ _ _ _ TZ) Tryz.underlying173 rfl X_):p:=h
theorem Yt13{p:Prop} (h:p:=by
 exact UL (p:=2) (u:=3) (v:=4) Zr _ _ w 173 (Qe i.kind i.Yl i.Ep i.time i.Wk i.octets xa i.blocks.length xc ya i.gone.length yc i.XT za i.Xo.length zc) (0,0) _ Zr (setRow_heap _ _ _ _ _ _ Dd) Tryz.underlying173 rfl X_):p:=h
theorem Yt14{p:Prop} (h:p:=by
 have e:=HI.o Zo;have E:=Zh e;clear e;go_wp2;go_roundw
 case rel=>
  refine⟨k+1,hb,Zn,Zo,?_⟩;rw[←HS.o,E.o,setid _ _ (by rw[tI.o];exact hk) _ (by rw[Dk _ _ (by rw[HL.o];exact hk),HX.o])];exact HR.o
 case measure=>simp[intOf];omega):p:=h
theorem Yt15{p:Prop} (h:p:=by
 exact results_cell_row Zr _ _ (w.heap.size+1) 100 cs.toArray (0,0) _ Zr (setRow_heap _ _ _ _ _ _ Ip) Tryz.underlying100 rfl hi):p:=h
theorem fu{p:Prop} (h:p:=by
 go_enter Tryz.func150,Tryz.ntmps150;go_wp2;go_ret
 exact⟨Xt HF.o.symm,rfl⟩):p:=h
theorem fw{p:Prop} (h:p:=by
 intro h
 have:a=none:=by
  split at h
  ·exact h
  ·simpa using h
 have:=h0 this
 omega):p:=h
theorem Yt18{p:Prop} (h:p:=by
 go_wp2_with (go_at_call 149;refine CD.o.mono ?_;rintro e w' ⟨rfl,Zb⟩)
 go_roundw
 case rel=>exact⟨k+1,hb.trans (Zb.mono hb.size),Zn,by rw[H2.o];go_num,Zo,Kb Uz.o H4.o HG.o⟩
 case measure=>simp[intOf];omega):p:=h
theorem fx{p:Prop} (h:p:=by
 go_wp2;go_ret
 exact⟨⟨_,rfl,by rw[HL.o,HH1.o];exact TV _ _ _ _⟩,YI _ _⟩):p:=h
theorem fy{p:Prop} (h:p:=by
 go_ret
 exact⟨YS HF.o.symm,(Z' _ _).trans (YZ.mono Zi)⟩):p:=h
theorem fA{p:Prop} (h:p:=by
 go_quiet ((go_at_call 115;exact Calls.quiet_of_same (CL.o _)))
 exact kv):p:=h
theorem Yt22{p:Prop} (h:p:=by
 go_roundw
 case rel=>exact⟨j+1,T,Zo,Zn,by rw[HZ.o],GH.o.trans (Fr.Z6 _ (RD.o.mono GH.o.size)),Vm.o.below RD.o,by rw[HZ.o];exact Mf.o⟩
 case measure=>simp[intOf];omega):p:=h
theorem Yt23{p:Prop} (h:p:=by
 exact Ud.fin (T':=_) pV.o (by simp[Ow.add,Yi,UD]) kb gA.o Mf.o gh.o VM y1):p:=h
theorem fB{p:Prop} (h:p:=by
 refine⟨⟨_,rfl,?_⟩,hb.below⟩;have:=HO.o
 rwa[PW,Hz]at this):p:=h
theorem Yt25{p:Prop} (h:p:=by
 rcases J9.1 ht with rfl|ht
 ·exact⟨by simp,by simp,WB ho⟩
 ·exact zS t ht):p:=h
theorem Yt26{p:Prop} (h:p:=by
 rcases Nat.lt_or_ge gs W6 with h|h
 ·exact h
 ·simp[World.cell?,D_ h]at s4):p:=h
theorem Yt27{p:Prop} (h:p:=by
 subst hm
 exact⟨hl,.inr ⟨w,n,xs.toArray,rfl,hB,(by show(w.heap.push _)[w.heap.size]?=_;simp),Zw _,hn,by simp[hl],by rw[EM (by simp[hl])]⟩⟩):p:=h
theorem Yt28{p:Prop} (h:p:=by
 go_ret2
 rw[HF.o]
 exact⟨⟨_,rfl,Row.nil _ _⟩,HR.o _ YZ,Fr.Z6 _ YZ⟩):p:=h
theorem Yt29{p:Prop} (h:p:=by
 exact UM (p:=2) (u:=3) (v:=4) (x:=5) Zr _ _ w 79 (Qc false 0 0 0 0 none 0 0 false 0 none 0 0 none 0 0 0) (0,0) _ Zr (setRow_heap _ _ _ _ _ _ UH) Tryz.underlying79 rfl Zk):p:=h
end Go
