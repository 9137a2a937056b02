/- Constants that stand for the ends of walks. -/
import Derived.Test.YtpdjhlcbcomdkaaGreatDoorR00
set_option linter.unusedVariables false
namespace Go
theorem Yt1 {p:Prop} (h:p:=by
 refine VD (v:= .tuple (Q0 (Qb false 0 0 0 0 none 0 0 false 0 none 0 0 none 0 0 0) 0 0 2)) ?_ rfl ?_
 ·exact UL (p:=2) (u:=3) (v:=4) (x:=5) Zr _ _ w.heap.size 79 (Qb false 0 0 0 0 none 0 0 false 0 none 0 0 none 0 0 0) (0,0) _ Zr (setRow_heap _ _ _ _ _ _ UF) Tryz.underlying79 rfl Zk
 first|exact UD.o _ 2 HP.o.Zg VA.o|(obtain ⟨⟨a,f,t,k1,k2⟩,k3⟩:=UD.o _ 2 HP.o.Zg VA.o;exact ⟨⟨a,⟨f,t,k1⟩,k2⟩,k3⟩)):p:=h
theorem uj {p:Prop} (h:p:=by
 (try dsimp only)
 first|exact iK.o.pk.Zg|exact HP6.o.Zg|exact qy.o.Zg|exact IM.o.pk.Zg):p:=h
theorem Yt3 {p:Prop} (h:p:=by
 refine Z_.tkp 51 [54] ?_ rfl ?_ <| ?_
 rotate_left
 ·intro wS Uq;(try dsimp only at Uq)
  refine Vf 59 (.tmp 5) ?_ kx ?_ 59 (Qc xp xs xb xf) (0,0) _ Uq.1 Tryz.underlying59 rfl Zk;all_goals rfl
 try simp only [Z_.pt]
 refine YQ 53 [54] (h:=?_);refine YR 54 (h:=fun K hK=>?_);go_simp;refine (bj.o _ (YJ _ _).drew).mono ?_;rintro e w9 ⟨rfl,qH⟩;have ql:Hid (Below w7 w7 w9):=(YJ w7.heap.size w7).drew.trans qH;clear qH;go_wp2_with fail
 refine Z_.Zb hK _ _ ?_ (fun VG=>?_)
 ·(try dsimp only)
  first|exact Zz.o _ ql.o|exact Zz.o _ (YJ _ _).drew
 clear hK K;try simp only [Z_.pt]
 refine YR 55 (h:=fun K hK=>?_);go_simp;refine Z_.Yk hK _ _ Zk ?_;clear hK K;try simp only [Z_.pt]
 refine Z_.YC Zk ?_ _;refine RA ?_;go_wp2_with fail
 go_meet
 exact ⟨rfl,ql.o⟩):p:=h
theorem Yt4 {p:Prop} (h:p:=by
 go_wp2_with fail
 refine hK.out _ _ ?_ (fun XU=>?_)
 ·exact Rz.o _ Bp.o
 clear hK K;try simp only [Z_.pt]
 refine R7 2 (h:=fun K hK=>?_);go_simp;refine hK.out _ _ ?_ (fun VG=>?_)
 ·exact Rz.o _ Bp.o
 clear hK K;try simp only [Z_.pt]
 refine YA 6 (h:=?_);refine YHE (h:=?_);refine RA ?_;obtain ⟨TZ,qH⟩:=UD.o wA (Qd 0 false false 0) Bp.o;go_wp2_with (with_reducible refine ZU 81 (.tmp 2) (.tmp 42) rfl ?_;refine Zs TZ ?_)
 refine VD (v:= .tuple (Qo (Qd 0 false false 0) 1)) ?_ rfl ?_
 ·exact UJ (p:=2) (u:=3) Zr _ _ w.heap.size 81 (Qd 0 false false 0) (0,0) _ Zr (setRow_heap _ _ _ _ _ _ TZ) Tryz.underlying81 rfl Zk
 rw [HX.o]
 exact ⟨rfl,qH⟩):p:=h
theorem Yt5 {p:Prop} (h:p:=by
 (try dsimp only)
 (first|exact IU.o _ (Fr.Z7 _ Wd)|exact IU.o _ (Fr.setAt (Fr.Z7 _ Wd) _ _)|go_keep)):p:=h
theorem Yt6 {p:Prop} (h:p:=by
 have sF:tmps[p]?.getD undef = .pointer (some ⟨g,0,none⟩):=by simpa using hp
 simp [results,h,sF,asAddr,run_loadVar_row w g t ty cs fr d hg hu hd hi]):p:=h
theorem Yt7 {p:Prop} (h:p:=by
 exact UJ (p:=2) (u:=3) Zr _ _ w.heap.size 84 (Qj 0 false 0 0 0 0 none 0 0 false 0 none 0 0 none 0 0 0 0 false false 0 none 0 0) (0,0) _ Zr (setRow_heap _ _ _ _ _ _ y0) Tryz.underlying84 rfl Zk):p:=h
theorem Yt8 {p:Prop} (h:p:=by
 exact Nu (p:=2) (q:=3) (u:=4) Zr _ _ w.heap.size (w.heap.size+1) 79 81 (Qb false 0 0 0 0 none 0 0 false 0 none 0 0 none 0 0 0) (Qd 0 false false 0) (0,0) (0,0) _ _ Zr Zr ((setRow_other _ _ _ _ Zo).trans (setRow_heap _ _ _ _ _ _ y0)) (setRow_heap _ _ _ _ _ _ ((setRow_other _ _ _ _ Zo).trans y1)) Tryz.underlying79 Tryz.underlying81 rfl rfl Zk Zk):p:=h
theorem Yt9 {p:Prop} (h:p:=by
 rcases Nat.lt_or_ge g w2.heap.size with h|h
 ·exact h
 ·rw [E7 h] at JB;cases JB):p:=h
theorem bB {p:Prop} (h:p:=by
 exact UK (p:=2) (u:=3) (v:=4) Zr _ _ w.heap.size 173 YZ (0,0) _ Zr (setRow_heap _ _ _ _ _ _ TZ) Tryz.underlying173 rfl ZB):p:=h
theorem Yt11 {p:Prop} (h:p:=by
 exact UK (p:=2) (u:=3) (v:=4) Zr _ _ w.heap.size 173 (Qe i.kind i.YE i.Ie i.time i.WY i.octets xa i.blocks.length xc ya i.gone.length yc i.X5 za i.XA.length zc) (0,0) _ Zr (setRow_heap _ _ _ _ _ _ uP) Tryz.underlying173 rfl ZB):p:=h
theorem Yt12 {p:Prop} (h:p:=by
 have e:=HI.o Zo;have E:=Zh e;clear e;go_wp2;go_roundw
 case rel=>
  refine ⟨k+1,hb,Zn,Zo,?_⟩;rw [←HS.o,E.o,setid _ _ (by rw [qq.o];exact hk) _ (by rw [Er _ _ (by rw [HL.o];exact hk),HX.o])];exact HR.o
 case measure=>simp [intOf];omega):p:=h
theorem bC {p:Prop} (h:p:=by
 exact results_cell_row Zr _ _ (w.heap.size+1) 100 cs.toArray (0,0) _ Zr (setRow_heap _ _ _ _ _ _ JG) Tryz.underlying100 rfl hi):p:=h
theorem jb {p:Prop} (h:p:=by
 go_enter Tryz.func150,Tryz.ntmps150;go_wp2;go_ret
 exact ⟨Xw HF.o.symm,rfl⟩):p:=h
theorem je {p:Prop} (h:p:=by
 intro h
 have:a=none:=by
  split at h
  ·exact h
  ·simpa using h
 have:=h0 this
 omega):p:=h
theorem Yt16 {p:Prop} (h:p:=by
 go_wp2_with (go_at_call 149;refine CD.o.mono ?_;rintro e w' ⟨rfl,Y7⟩)
 go_roundw
 case rel=>exact ⟨k+1,hb.trans (Y7.mono hb.size),Zn,by rw [H2.o];go_num,Zo,KP UO.o H4.o HG.o⟩
 case measure=>simp [intOf];omega):p:=h
theorem jf {p:Prop} (h:p:=by
 go_wp2;go_ret
 exact ⟨⟨_,rfl,by rw [HL.o,HH1.o];exact TY _ _ _ _⟩,YJ _ _⟩):p:=h
theorem jg {p:Prop} (h:p:=by
 go_ret
 exact ⟨YW HF.o.symm,(Z' _ _).trans (YY.mono Zi)⟩):p:=h
theorem jh {p:Prop} (h:p:=by
 go_quiet ((go_at_call 115;exact Calls.quiet_of_same (CL.o _)))
 exact ng):p:=h
theorem Yt20 {p:Prop} (h:p:=by
 go_roundw
 case rel=>exact ⟨j+1,T,Zo,Zn,by rw [HZ.o],Hv.o.trans (Fr.Z7 _ (RM.o.mono Hv.o.size)),Vm.o.below RM.o,by rw [HZ.o];exact MG.o⟩
 case measure=>simp [intOf];omega):p:=h
theorem bD {p:Prop} (h:p:=by
 exact Ue.fin (T':=_) se.o (by simp [OJ.add,Yb,UB]) kb jW.o MG.o jP.o VK y1):p:=h
theorem ji {p:Prop} (h:p:=by
 refine ⟨⟨_,rfl,?_⟩,hb.below⟩;have:=HO.o
 rwa [QD,J2] at this):p:=h
theorem bE {p:Prop} (h:p:=by
 rcases KN.1 ht with rfl|ht
 ·exact ⟨by simp,by simp,Wh ho⟩
 ·exact A_ t ht):p:=h
theorem bF {p:Prop} (h:p:=by
 rcases Nat.lt_or_ge gs W6.heap.size with h|h
 ·exact h
 ·simp [World.cell?,E7 h] at s4):p:=h
theorem Yt25 {p:Prop} (h:p:=by
 subst hm
 exact ⟨hl,.inr ⟨w,n,xs.toArray,rfl,hB,(by show (w.heap.push _)[w.heap.size]?=_;simp),Zw _,hn,by simp [hl],by rw [FL (by simp [hl])]⟩⟩):p:=h
theorem bG {p:Prop} (h:p:=by
 go_ret2
 rw [HF.o]
 exact ⟨⟨_,rfl,Row.nil _ _⟩,HR.o _ YY,Fr.Z7 _ YY⟩):p:=h
theorem jk {p:Prop} (h:p:=by
 (try dsimp only)
 first|exact Zz.o _ ql.o|exact Zz.o _ (YJ _ _).drew):p:=h
theorem Yt28 {p:Prop} (h:p:=by
 exact UL (p:=2) (u:=3) (v:=4) (x:=5) Zr _ _ w.heap.size 79 (Qb false 0 0 0 0 none 0 0 false 0 none 0 0 none 0 0 0) (0,0) _ Zr (setRow_heap _ _ _ _ _ _ UF) Tryz.underlying79 rfl Zk):p:=h
theorem Yt29 {p:Prop} (h:p:=by
 intro wS Uq;(try dsimp only at Uq)
 refine Vf 59 (.tmp 5) ?_ kx ?_ 59 (Qc xp xs xb xf) (0,0) _ Uq.1 Tryz.underlying59 rfl Zk
 all_goals rfl):p:=h
end Go
