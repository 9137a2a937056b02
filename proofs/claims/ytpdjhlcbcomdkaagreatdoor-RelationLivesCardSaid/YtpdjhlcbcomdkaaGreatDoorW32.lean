/- Part of a proof. -/
import Derived.Test.YtpdjhlcbcomdkaaGreatDoorW31
set_option linter.unusedVariables false
set_option linter.unusedSimpArgs false
set_option maxRecDepth 100000
set_option maxHeartbeats 16000000
open Go Go.Q Go.Qr
namespace Go.Proofs.By
open Go.RowKit Go.Proofs.Heap Go.Proofs
theorem V9 (w:World) (c d:Array Value) (t s:TypeId):((w.alloc (.cells c t)).alloc (.cells d s)).heap[w.heap.size]?=some (.cells c t (0,0))∧((w.alloc (.cells c t)).alloc (.cells d s)).heap[w.heap.size+1]?=some (.cells d s (0,0))∧((w.alloc (.cells c t)).alloc (.cells d s)).heap.size=w.heap.size+2:=by
 have e1:(w.alloc (.cells c t)).heap.size=w.heap.size+1:=by show (w.heap.push _).size=_;rw [O6]
 refine ⟨?_,?_,by show ((w.alloc (.cells c t)).heap.push _).size=_;rw [O6,e1]⟩
 ·rw [(Z' (w.alloc (.cells c t)) _).block _ (by rw [e1];omega)]
  exact Z7 w _
 ·have h:=Z7 (w.alloc (.cells c t)) (.cells d s)
  rw [e1] at h
  exact h
def Rn (k:Int) (p:KZ) (d:F3) (cv ev pv iv:Value):List Value:= .int .i64 k :: (VN p d cv ev pv++[iv])
def zI (w:World) (v:Value):Ev→Prop
 | .none=>v = .agg (Rn 0 WU TG (.slice none 0 0) (.slice none 0 0) (.slice none 0 0) (.slice none 0 0)).toArray
 | .X7 p d=>∃ cv ev pv,v = .agg (Rn 1 p d cv ev pv (.slice none 0 0)).toArray∧Vt w p cv ev pv
 | .XV l=>∃ iv,v = .agg (Rn 2 WU TG (.slice none 0 0) (.slice none 0 0) (.slice none 0 0) iv).toArray∧YI w iv l
theorem A6 {b:List UInt8} (h1:¬512<b.length) (h2:¬b.length<2) (h3:¬(192≤at8 b 1∧at8 b 1≤223)):XJ b=if (TM b).2≠0 then (.none,(TM b).2) else (.X7 (TM b).1.1 (TM b).1.2,0):=by
 unfold XJ TM
 rw [Z4 h1,Z4 h2,Z4 h3]
 by_cases q1:(YM b).2≠0
 ·rw [ZQ q1,ZQ q1,ZQ q1]
 ·rw [Z4 q1,Z4 q1]
  by_cases q2:(YB (YM b).1.ZH).2≠0
  ·rw [ZQ q2,ZQ q2,ZQ q2]
  ·rw [Z4 q2,Z4 q2,Z4 (fun h=>h rfl)]
theorem YI.setRow {w:World} {v:Value} {l:List RF} (h:YI w v l) {g:Nat} {c:Array Value} {f:Nat × Nat} (hg:w.heap[g]?=some (.cells c 84 f)) (cs:Array Value):YI (w.setRow g cs) v l:=by
 obtain ⟨L,h1,h2,h3⟩:=h
 exact ⟨L,h1,Row.setRow h2 hg Zd _,fun x hx=>⟨Row.setRow (h3 x hx).b hg Zd _,Row.setRow (h3 x hx).g hg Zd _,Row.setRow (h3 x hx).p hg Zd _⟩⟩
theorem EU (v:Value) (b:List UInt8) (w:World) (hv:X9 w v b) :
  Calls Tryz.prog 41 #[v] w fun e w'=>(∃ a,e = .returned (.tuple #[a,.int .i64 (XJ b).2])∧zI w' a (XJ b).1)∧Below w w w':=by
 have HV:Hid (∀ w',Below w w w'→X9 w' v b):=fun w' h=>hv.below h
 have HB:Hid (Below w w (w.alloc (.cells (Ql 0 false 0 0 0 0 none 0 0 false 0 none 0 0 none 0 0 0 0 false false 0 none 0 0) 84))):=Z' w _
 have y0:=Z7 w (.cells (Ql 0 false 0 0 0 0 none 0 0 false 0 none 0 0 none 0 0 0 0 false false 0 none 0 0) 84)
 have hlen:=hv.len
 by_cases h1:512<b.length
 ·have HX:Hid (XJ b=(.none,5)):=by show _=_;unfold XJ;rw [ZQ h1]
  obtain ⟨a,c,rfl,-⟩:=id hv
  clear hv HV
  generalize XJ b=X at *
  have l1:decide ((512:Int)<(b.length:Int))=true:=We Zo
  go_enter Tryz.func41,Tryz.ntmps41
  go_wp2_with (first|((with_reducible refine ZU 84 (.tmp 2) (.tmp 13) rfl ?_);refine Zs y0 ?_))
  refine VJ (v:= .tuple (Qo (Ql 0 false 0 0 0 0 none 0 0 false 0 none 0 0 none 0 0 0 0 false false 0 none 0 0) 5)) ?_ rfl ?_
  ·exact Yt7
  exact ⟨⟨_,by rw [HX.o],by rw [HX.o];rfl⟩,Z3 HB.o (Zw _) _⟩
 have l1:decide ((512:Int)<(b.length:Int))=false:=WB Zo
 by_cases h2:b.length<2
 ·have HX:Hid (XJ b=(.none,2)):=by show _=_;unfold XJ;rw [Z4 h1,ZQ h2]
  obtain ⟨a,c,rfl,-⟩:=id hv
  clear hv HV
  generalize XJ b=X at *
  have l2:decide ((b.length:Int)<2)=true:=We Zo
  go_enter Tryz.func41,Tryz.ntmps41
  go_wp2_with (first|((with_reducible refine ZU 84 (.tmp 2) (.tmp 18) rfl ?_);refine Zs y0 ?_))
  refine VJ (v:= .tuple (Qo (Ql 0 false 0 0 0 0 none 0 0 false 0 none 0 0 none 0 0 0 0 false false 0 none 0 0) 2)) ?_ rfl ?_
  ·exact Yt7
  exact ⟨⟨_,by rw [HX.o],by rw [HX.o];rfl⟩,Z3 HB.o (Zw _) _⟩
 have l2:decide ((b.length:Int)<2)=false:=WB Zo
 obtain ⟨g,off,c,rfl,Sg,BC,W9⟩:=R7 (HV.o _ HB.o) Zo
 have d1:=W9 1 Zo
 clear W9 hv Sg BC
 have aW:(1:Int)<(b.length:Int):=by omega
 by_cases h3:192≤at8 b 1∧at8 b 1≤223
 ·have HX:Hid (XJ b=if (Ym b).2≠0 then (.none,(Ym b).2) else (.XV (Ym b).1,0)):=by
   show _=_
   conv=>lhs;unfold XJ
   rw [Z4 h1,Z4 h2,ZQ h3]
  have HC:=Zh (FM _ b _ (HV.o _ HB.o))
  clear HV
  generalize XJ b=X at *
  generalize Ym b=Y at *
  obtain ⟨L,er⟩:=Y
  dsimp only at HC HX
  obtain ⟨sY,yV⟩:=h3
  generalize at8 b 1=kd at *
  have q1:decide ((192:Int)≤(kd:Int))=true:=We Zo
  have q2:decide ((kd:Int)≤223)=true:=We Zo
  go_enter Tryz.func41,Tryz.ntmps41
  go_upto_region 7 with (go_at_call 70;refine HC.o.mono ?_;rintro e w2 ⟨⟨iv,rfl,hit⟩,Y0⟩;obtain ⟨ia,ic,Ak⟩:=YI.form hit;subst Ak;have Gd:=Zh hit;have X6:=Zh Y0;clear hit Y0)
  clear HC
  replace y0:=(X6.o.block _ (ZV y0)).trans y0
  have VT:Hid (Below w w w2):=HB.o.trans (X6.o.mono HB.o.size)
  by_cases R9:er=0
  ·subst R9
   rw [Z4 Zi] at HX
   go_wp2_with (first|((with_reducible refine ZU 84 (.tmp 2) (.tmp 39) rfl ?_);refine Zs y0 ?_))
   refine VJ (v:= .tuple (Qo (Ql 2 false 0 0 0 0 none 0 0 false 0 none 0 0 none 0 0 0 0 false false 0 ia L.length ic) 0)) ?_ rfl ?_
   ·exact UR (p:=2) (u:=3) Zr _ _ w.heap.size 84 (Ql 2 false 0 0 0 0 none 0 0 false 0 none 0 0 none 0 0 0 0 false false 0 ia L.length ic) (0,0) _ Zr (setRow_heap _ _ _ _ _ _ y0) Tryz.underlying84 rfl Zk
   exact ⟨⟨_,by rw [HX.o],by rw [HX.o];exact ⟨_,rfl,Gd.o.setRow y0 _⟩⟩,Z3 VT.o (Zw _) _⟩
  ·have bl:(er != 0)=true:=by rw [R6];exact R9
   rw [ZQ R9] at HX
   go_wp2_with (first|((with_reducible refine ZU 84 (.tmp 2) (.tmp 36) rfl ?_);refine Zs y0 ?_))
   refine VJ (v:= .tuple (Qo (Ql 0 false 0 0 0 0 none 0 0 false 0 none 0 0 none 0 0 0 0 false false 0 none 0 0) er)) ?_ rfl ?_
   ·exact Yt7
   exact ⟨⟨_,by rw [HX.o],by rw [HX.o];rfl⟩,Z3 VT.o (Zw _) _⟩
 have HX:Hid (XJ b=if (TM b).2≠0 then (.none,(TM b).2) else (.X7 (TM b).1.1 (TM b).1.2,0)):=A6 h1 h2 h3
 have HC:=Zh (xN _ b _ (HV.o _ HB.o))
 clear HV
 generalize XJ b=X at *
 generalize TM b=Y at *
 obtain ⟨⟨P,d⟩,er⟩:=Y
 dsimp only at HC HX
 have hk:at8 b 1<192∨223<at8 b 1:=by omega
 clear h3
 generalize at8 b 1=kd at *
 go_enter Tryz.func41,Tryz.ntmps41
 rcases hk with hk|hk
 case' inl=>have q1:decide ((192:Int)≤(kd:Int))=false:=WB Zo
 case' inr=>have q1:decide ((192:Int)≤(kd:Int))=true:=We Zo
 case' inr=>have q2:decide ((kd:Int)≤223)=false:=WB Zo
 all_goals
  go_upto_region 11 with (first|(go_at_call 71;refine HC.o.mono ?_;rintro e w2 ⟨⟨a0,rfl,⟨cv,ev,pv,ij,q1,q2,q3⟩⟩,Y0⟩;obtain ⟨ca,cc,F6,-⟩:=id q1;obtain ⟨ea,ec,Lm,-⟩:=id q2;obtain ⟨pa,pc,Mr,-⟩:=id q3;subst F6;subst Lm;subst Mr;dsimp only [Hj] at ij;subst ij;dsimp only [oF];have HR:Hid (Vt w2 P (.slice ca P.VW.length cc) (.slice ea P.ext.length ec) (.slice pa P.ZH.length pc)):=⟨q1,q2,q3⟩;have X6:=Zh Y0;clear q1 q2 q3 Y0;obtain ⟨n0,n1,n2⟩:=V9 w2 (Qb false 0 0 0 0 none 0 0 false 0 none 0 0 none 0 0 0) (Qc 0 false false 0) 79 81)|((with_reducible refine ZU 79 (.tmp 6) (.tmp 43) rfl ?_);refine Zs n0 ?_)|((with_reducible refine ZU 81 (.tmp 7) (.tmp 44) rfl ?_);refine Zs ((setRow_other _ _ _ _ Zo).trans n1) ?_))
  clear HC
  have tC:w.heap.size<w2.heap.size:=Pb (ZV y0) X6.o.size
  have VT:Hid (Below w w w2):=HB.o.trans (X6.o.mono HB.o.size)
  have Uc:Hid (Below w2 w2 ((((w2.alloc (.cells (Qb false 0 0 0 0 none 0 0 false 0 none 0 0 none 0 0 0) 79)).alloc (.cells (Qc 0 false false 0) 81)).setRow w2.heap.size (Jt P ca cc ea ec pa pc)).setRow (w2.heap.size+1) (Jp d))):=Z3 (Z3 (ZC (Z' w2 _) (Zw _) _) (Zw _) _) (IP _) _
  replace y0:=(Uc.o.block _ tC).trans ((X6.o.block _ (ZV y0)).trans y0)
  have P7:Hid (Below w w ((((w2.alloc (.cells (Qb false 0 0 0 0 none 0 0 false 0 none 0 0 none 0 0 0) 79)).alloc (.cells (Qc 0 false false 0) 81)).setRow w2.heap.size (Jt P ca cc ea ec pa pc)).setRow (w2.heap.size+1) (Jp d))):=VT.o.trans (Uc.o.mono VT.o.size)
  have y5:((((w2.alloc (.cells (Qb false 0 0 0 0 none 0 0 false 0 none 0 0 none 0 0 0) 79)).alloc (.cells (Qc 0 false false 0) 81)).setRow w2.heap.size (Jt P ca cc ea ec pa pc)).setRow (w2.heap.size+1) (Jp d)).heap[w2.heap.size]?=some (.cells (Jt P ca cc ea ec pa pc) 79 (0,0)):=(setRow_other _ _ _ _ Zo).trans (setRow_heap _ _ _ _ _ _ n0)
  have y6:((((w2.alloc (.cells (Qb false 0 0 0 0 none 0 0 false 0 none 0 0 none 0 0 0) 79)).alloc (.cells (Qc 0 false false 0) 81)).setRow w2.heap.size (Jt P ca cc ea ec pa pc)).setRow (w2.heap.size+1) (Jp d)).heap[w2.heap.size+1]?=some (.cells (Jp d) 81 (0,0)):=setRow_heap _ _ _ _ _ _ ((setRow_other _ _ _ _ Zo).trans n1)
  have M4:=Zh (HR.o.below Uc.o)
  by_cases R9:er=0
  ·subst R9
   rw [Z4 Zi] at HX
   have HRZ:=Vt.setRow M4.o y0 Zd Zd (Js 1 P ca cc ea ec pa pc d none 0 0)
   go_wp2_with (first|((with_reducible refine Y8 79 (.tmp 6) rfl ?_);refine Zl y5 Tryz.underlying79 ?_)|((with_reducible refine Y8 81 (.tmp 7) rfl ?_);refine Zl y6 Tryz.underlying81 ?_)|((with_reducible refine ZU 84 (.tmp 2) (.tmp 52) rfl ?_);refine Zs y0 ?_))
   refine VJ (v:= .tuple (Qo (Js 1 P ca cc ea ec pa pc d none 0 0) 0)) ?_ rfl ?_
   ·exact UR (p:=2) (u:=3) Zr _ _ w.heap.size 84 (Js 1 P ca cc ea ec pa pc d none 0 0) (0,0) _ Zr (setRow_heap _ _ _ _ _ _ y0) Tryz.underlying84 rfl Zk
   exact ⟨⟨_,by rw [HX.o],by rw [HX.o];exact ⟨_,_,_,rfl,HRZ⟩⟩,Z3 P7.o (Zw _) _⟩
  ·have bl:(er != 0)=true:=by rw [R6];exact R9
   rw [ZQ R9] at HX
   go_wp2_with (first|((with_reducible refine ZU 84 (.tmp 2) (.tmp 48) rfl ?_);refine Zs y0 ?_))
   refine VJ (v:= .tuple (Qo (Ql 0 false 0 0 0 0 none 0 0 false 0 none 0 0 none 0 0 0 0 false false 0 none 0 0) er)) ?_ rfl ?_
   ·exact UR (p:=2) (u:=3) Zr _ _ w.heap.size 84 (Ql 0 false 0 0 0 0 none 0 0 false 0 none 0 0 none 0 0 0 0 false false 0 none 0 0) (0,0) _ Zr (setRow_heap _ _ _ _ _ _ y0) Tryz.underlying84 rfl Zk
   exact ⟨⟨_,by rw [HX.o],by rw [HX.o];rfl⟩,Z3 P7.o (Zw _) _⟩
open Go.Proofs.Rm (ZL ZN)
structure yI where
 e:Ev
 cv:Value
 ev:Value
 pv:Value
 iv:Value
def Xg (x:yI):List Value:=Rn x.e.kd x.e.pk x.e.ds x.cv x.ev x.pv x.iv
structure IE (w:World) (x:yI):Prop where
 p:Vt w x.e.pk x.cv x.ev x.pv
 i:YI w x.iv x.e.il
theorem zI.form {w:World} {v:Value} {e:Ev} (h:zI w v e):∃ cv ev pv iv,v = .agg (Xg ⟨e,cv,ev,pv,iv⟩).toArray∧IE w ⟨e,cv,ev,pv,iv⟩:=by
 cases e with
 | none=>exact ⟨_,_,_,_,h,Vt.nil w,YI.nil w⟩
 | X7 p d=>obtain ⟨cv,ev,pv,h1,h2⟩:=h;exact ⟨_,_,_,_,h1,h2,YI.nil w⟩
 | XV l=>obtain ⟨iv,h1,h2⟩:=h;exact ⟨_,_,_,_,h1,Vt.nil w,h2⟩
theorem oG:Elem Tryz.prog 38 84 17 168:=⟨Tryz.underlying38,⟨.agg (Ql 0 false 0 0 0 0 none 0 0 false 0 none 0 0 none 0 0 0 0 false false 0 none 0 0),by kernel_rfl,rfl⟩,by decide⟩
def Np:List TypeId:=[44,35,84,59,66,5,173,228,226]
def Off (ts:List TypeId) (w:World) (S:Nat→Prop):Prop:=∀ e∈ts,∀ j c fr,S j→w.heap[j]?≠some (.cells c e fr)
theorem RN {ts:List TypeId} {w:World} {B:Nat} {e:TypeId} {s:Nat} {v:Value} {n:Nat} {xs:List Value} (h:w.ownsRow B e s v n xs) (WM:e ∉ ts):Off ts w (fun j=>v.ownBlock=some j):=fun e2 he=>Zf h (fun h=>WM (h▸he))
theorem U4 {ts:List TypeId} {w:World} {k:Nat} {cs:Array Value} {e:TypeId} {f:Nat × Nat} (h:w.heap[k]?=some (.cells cs e f)) (WM:e ∉ ts):Off ts w (· = k):=by
 intro e2 he j c fr hj hc
 rw [hj,h] at hc
 injection hc with hc
 injection hc with _ hc
 exact WM (hc▸he)
theorem qj {ts:List TypeId} {w:World} {S T:Nat→Prop} (h1:Off ts w S) (h2:Off ts w T):Off ts w (fun j=>S j∨T j):=fun e he j c fr hj=>hj.elim (fun h=>h1 e he j c fr h) (fun h=>h2 e he j c fr h)
theorem IE.below {w w':World} {x:yI} (h:IE w x) (hb:Below w w w'):IE w' x:=⟨h.p.below hb,h.i.below hb⟩
theorem IE.aT {w w':World} {x:yI} {S:Nat→Prop} (h:IE w x) (hf:Fr w S w w') (hS:Off [66,5,173,228,226] w S):IE w' x:=by
 refine ⟨h.p.yR hf (hS _ Zi) (hS _ Zi),?_⟩
 obtain ⟨L,h1,h2,h3⟩:=h.i
 exact ⟨L,h1,Row.fr h2 hf (Zw _) (hS _ Zi),fun y hy=>(h3 y hy).yR hf (hS _ Zi) (hS _ Zi) (hS _ Zi)⟩
theorem Uu {w w':World} {b:Nat} {T:ZN} {S:Nat→Prop} (h:ZL w b T) (hf:Fr w S w w') (hS:Off [91,103,108,105,66] w S):ZL w' b T:=by
 have hl:=h.lt
 obtain ⟨pv,sv,uv,hc,ht⟩:=h.VC
 exact ⟨pv,sv,uv,by rw [hf.block b hl (fun hs=>hS _ Zi _ _ _ hs hc)];exact hc,ht.fr hf (Zw _) (hS _ Zi) (hS _ Zi) (hS _ Zi) (hS _ Zi)⟩
theorem UB {w w':World} {B:Nat} {e:TypeId} {s:Nat} {v:Value} {n:Nat} {xs:List Value} {S:Nat→Prop} {ts:List TypeId} (h:w.ownsRow B e s v n xs) (hf:Fr w S w w') (hS:Off ts w S) (he:e∈ts):w'.ownsRow B e s v n xs:=
 XS h fun j hj=>by
  obtain ⟨cur,hc⟩:=Wq h j hj
  exact hf.block j (ZV hc) (fun hs=>hS _ he _ _ _ hs hc)
structure WO (B:Nat) (w:World) (k:Nat) (cs:Array Value) (av:Value) (A:List FZ) (ev:Value) (E:List yI) (lv:Value) (LS:List Zq):Prop where
 Za:w.heap[k]?=some (.cells cs 44 (0,0))
 XE:w.ownsRow B 35 4 av A.length (A.flatMap WE)
 yQ:w.ownsRow B 84 17 ev E.length (E.flatMap Xg)
 each:∀ x∈E,IE w x
 QS:w.ownsRow B 59 4 lv LS.length (LS.flatMap ZY)
section
variable {B:Nat} {w w':World} {k:Nat} {cs:Array Value} {av:Value} {A:List FZ} {ev:Value} {E:List yI} {lv:Value} {LS:List Zq}
theorem WO.below (h:WO B w k cs av A ev E lv LS) (hb:Below w w w'):WO B w' k cs av A ev E lv LS:=
 ⟨(hb.block _ (ZV h.Za)).trans h.Za,Yx h.XE hb,Yx h.yQ hb,fun x hx=>(h.each x hx).below hb,Yx h.QS hb⟩
theorem WO.frS (h:WO B w k cs av A ev E lv LS) {S:Nat→Prop} (hf:Fr w S w w') (hS:Off (Np.drop 1) w S) {cs':Array Value} (hk:w'.heap[k]?=some (.cells cs' 44 (0,0))):WO B w' k cs' av A ev E lv LS:=
 ⟨hk,UB h.XE hf hS Zd,UB h.yQ hf hS Zd,fun x hx=>(h.each x hx).aT hf (fun e he=>hS e (by revert e;decide)),UB h.QS hf hS Zd⟩
theorem WO.Hs (h:WO B w k cs av A ev E lv LS) (o:Nat) (u:Value):WO B (w.setCell ⟨k,o,none⟩ u) k (cs.setIfInBounds o u) av A ev E lv LS:=
 h.frS (S:=(· = k)) ((Fr.refl _ _ _).setAt _ _) (U4 h.Za Zd) (VM h.Za o u)
theorem WO.Ad (h:WO B w k cs av A ev E lv LS) (hg:w.grownBy w' lv.ownBlock) {Dk:Value} {vY:List Zq} (ho:w'.ownsRow B 59 4 Dk vY.length (vY.flatMap ZY)):WO B w' k cs av A ev E Dk vY:=by
 have o:=RN (ts:=Np.erase 59) h.QS Zd
 exact ⟨(hg.block _ (ZV h.Za) (fun e=>o _ Zd _ _ _ e.symm h.Za)).trans h.Za,UB h.XE (XZ hg) o Zd,UB h.yQ (XZ hg) o Zd,fun x hx=>(h.each x hx).aT (XZ hg) (fun e he=>o e (by revert e;decide)),ho⟩
theorem WO.Ej (h:WO B w k cs av A ev E lv LS) (hg:w.grownBy w' av.ownBlock) {av':Value} {A':List FZ} (ho:w'.ownsRow B 35 4 av' A'.length (A'.flatMap WE)):WO B w' k cs av' A' ev E lv LS:=by
 have o:=RN (ts:=Np.erase 35) h.XE Zd
 exact ⟨(hg.block _ (ZV h.Za) (fun e=>o _ Zd _ _ _ e.symm h.Za)).trans h.Za,ho,UB h.yQ (XZ hg) o Zd,fun x hx=>(h.each x hx).aT (XZ hg) (fun e he=>o e (by revert e;decide)),UB h.QS (XZ hg) o Zd⟩
theorem WO.oL (h:WO B w k cs av A ev E lv LS) (hg:w.grownBy w' ev.ownBlock) {ev':Value} {x:yI} (hx:IE w x) (ho:w'.ownsRow B 84 17 ev' (E++[x]).length ((E++[x]).flatMap Xg)):WO B w' k cs av A ev' (E++[x]) lv LS:=by
 have o:=RN (ts:=Np.erase 84) h.yQ Zd
 exact ⟨(hg.block _ (ZV h.Za) (fun e=>o _ Zd _ _ _ e.symm h.Za)).trans h.Za,UB h.XE (XZ hg) o Zd,ho,fun y hy=>by
  rcases D5.1 hy with hy|hy
  ·exact (h.each y hy).aT (XZ hg) (fun e he=>o e (by revert e;decide))
  ·rw [Kc.1 hy];exact hx.aT (XZ hg) (fun e he=>o e (by revert e;decide)),UB h.QS (XZ hg) o Zd⟩
theorem WO.ft (h:WO B w k cs av A ev E lv LS) {S:Nat→Prop} (hf:Fr w S w w') (hS:Off (Np.erase 59) w S) {vY:List Zq} (ho:w'.ownsRow B 59 4 lv vY.length (vY.flatMap ZY)):WO B w' k cs av A ev E lv vY:=
 ⟨(hf.block _ (ZV h.Za) (fun hs=>hS _ Zd _ _ _ hs h.Za)).trans h.Za,UB h.XE hf hS Zd,UB h.yQ hf hS Zd,fun x hx=>(h.each x hx).aT hf (fun e he=>hS e (by revert e;decide)),ho⟩
end
end Go.Proofs.By
namespace Go.Proofs.By
open Go.RowKit Go.Proofs.Heap Go.Proofs
open Go.Proofs.Rm (ZN WL Inv Wa Room ZL Ni Rv Wy ET YS YO)
theorem EX {w:World} {b:Nat} {T:ZN} (h:ZL w b T):KR w (· = b):=by
 obtain ⟨_,_,_,hc,_⟩:=h.VC
 intro k hk
 subst hk
 exact ⟨_,_,_,hc,by decide,by decide,by decide,by decide,by decide,by decide,by decide⟩
theorem Bo (b:Nat) (T0:ZN) (R0:Room) (peer:Int) (v:Value) (l:List RF) (w:World) (hR:ZL w b T0) (tC:WL T0 R0) (hI:Inv R0) (hS:Wa R0) (hv:YI w v l) (V_:∀ i∈l,Te i) (hl:l.length≤8) :
  Calls Tryz.prog 73 #[.pointer (some ⟨b,0,none⟩),.int .i64 peer,v] w fun e w'=>e = .returned (.int .i64 (ZE peer l R0).2)∧(∃ T',ZL w' b T'∧WL T' (ZE peer l R0).1.2)∧Fr w (· = b) w w':=by
 obtain ⟨L,hlL,P4⟩:=hv
 obtain ⟨va,vc,rfl⟩:=Row.form P4.row
 have fJ:=Zh (EX hR)
 have Ge:=Zh P4
 have HR0:=Zh hR
 have Gi:=Zh tC
 have P8:Hid (∀ x∈L,Te x.i):=fun x hx=>V_ _ (by rw [hlL];exact List.mem_map_of_mem hx)
 have hLl:L.length≤8:=by have:=congrArg List.length hlL;rw [Tx] at this;omega
 have fQ:Hid (∀ j,Inv (ZE peer ((L.take j).map (·.i)) R0).1.2∧Wa (ZE peer ((L.take j).map (·.i)) R0).1.2∧0≤(ZE peer ((L.take j).map (·.i)) R0).2∧(ZE peer ((L.take j).map (·.i)) R0).2≤8000):=fun j=>by
  have h:=Rg peer ((L.take j).map (·.i)) R0 hI hS (fun i hi=>by
   obtain ⟨x,hx,rfl⟩:=wD.1 hi
   exact P8.o x (List.mem_of_mem_take hx))
  refine ⟨h.1,h.2.1,h.2.2.2.1,Int.le_trans h.2.2.2.2 ?_⟩
  have:((L.take j).map (·.i)).length≤8:=by rw [Tx,Tg];omega
  omega
 have HE:Hid (ZE peer l R0=ZE peer ((L.take L.length).map (·.i)) R0):=by show _=_;rw [nZ,←hlL]
 generalize ZE peer l R0=X at *
 have HTY:Hid (∀ k c fr,k=b→w.heap[k]?≠some (.cells c 66 fr)):=fJ.o.ne Zi
 clear hR tC hI hS V_ hlL hl P4
 go_enter Tryz.func73,Tryz.ntmps73
 go_wp2_with fail
 go_loopw [7,22] (fun s7 s22 w'=>∃ (j:Nat) (T:ZN),j≤L.length∧s22 = .int .i64 (j:Int)∧s7 = .int .i64 (ZE peer ((L.take j).map (·.i)) R0).2∧Fr w (· = b) w w'∧ZL w' b T∧WL T (ZE peer ((L.take j).map (·.i)) R0).1.2) (fun _ s22 _=>L.length-(intOf s22).toNat)
 case atStart=>exact ⟨0,T0,Zo,rfl,rfl,Fr.refl _ _ _,HR0.o,Gi.o⟩
 case round=>
  obtain ⟨j,T,hj,rfl,rfl,Wx,U3,FC⟩:=hrel
  have Uh:=Zh Wx
  clear HR0 Gi
  by_cases S4:j<L.length
  ·have Z0:=MG.fr Ge.o Wx fJ.o
   obtain ⟨g',off',e1,Vc⟩:=Tp YX 10 (fun _=>rfl) Z0.row Zo
   cases e1
   have hx:L[j]?=some L[j]:=U7 S4
   have Vc:=Vc j _ hx
   have ML:=Z0.each L[j] (Ot S4)
   have V_:=P8.o L[j] (Ot S4)
   have Mb:Hid (ZE peer ((L.take (j+1)).map (·.i)) R0=(((ZE peer ((L.take j).map (·.i)) R0).1.1++(Yj (ZE peer ((L.take j).map (·.i)) R0).1.2 peer L[j].i).1.1,(Yj (ZE peer ((L.take j).map (·.i)) R0).1.2 peer L[j].i).1.2),(ZE peer ((L.take j).map (·.i)) R0).2+(Yj (ZE peer ((L.take j).map (·.i)) R0).1.2 peer L[j].i).2)):=by
    show _=_
    rw [Rt hx,N7]
    exact OH peer L[j].i _ R0
   have Ak:=fQ.o j
   clear Z0 hx
   generalize L[j]=x at *
   generalize ZE peer ((L.take j).map (·.i)) R0=G at *
   obtain ⟨⟨G1,R⟩,gu⟩:=G
   obtain ⟨i,bv,gv,pv⟩:=x
   obtain ⟨ba,bc,wQ⟩:=Row.form ML.b
   obtain ⟨ga,gc,wX⟩:=Row.form ML.g
   obtain ⟨pa,pc,Mr⟩:=Row.form ML.p
   have mi:=ML.g
   clear ML
   obtain ⟨kd,ss,nt,tm,pk,oc,bs,gn,md,ps⟩:=i
   have td:=V_.m0
   have Da:=V_.m1
   have Bz:=V_.g
   clear V_
   dsimp only at wQ wX Mr mi td Da Bz Mb Ak FC ⊢
   subst wQ;subst wX;subst Mr
   obtain ⟨hri,Uz,hg0,hg8⟩:=Ak
   have KQ:wr.rangeAt g' (off'+j*10) (Qd kd ss nt tm pk oc ba bs.length bc ga gn.length gc md pa ps.length pc):=fun m v hm=>(Vc m (by have h:=(List.getElem?_eq_some_iff.1 hm).1;simpa using h)).trans hm
   have Al:(j:Int)<(L.length:Int):=Ou.2 S4
   have hz:=Z7 wr (.cells (Qd 0 0 0 0 0 0 none 0 0 none 0 0 0 none 0 0) 173)
   have JQ:=setRow_heap _ _ _ (Qd kd ss nt tm pk oc ba bs.length bc ga gn.length gc md pa ps.length pc) _ _ hz
   have P7:Hid (Below wr wr ((wr.alloc (.cells (Qd 0 0 0 0 0 0 none 0 0 none 0 0 0 none 0 0) 173)).setRow wr.heap.size (Qd kd ss nt tm pk oc ba bs.length bc ga gn.length gc md pa ps.length pc))):=Z3 (Z' wr _) (Zw _) _
   have HGR:=Zh (Row.below mi P7.o)
   have Vr:=Zh (U3.below P7.o)
   have Ie:Hid (Fr w (· = b) w ((wr.alloc (.cells (Qd 0 0 0 0 0 0 none 0 0 none 0 0 0 none 0 0) 173)).setRow wr.heap.size (Qd kd ss nt tm pk oc ba bs.length bc ga gn.length gc md pa ps.length pc))):=Wx.trans (Fr.Z8 _ (P7.o.mono Wx.size))
   have MV:=Zh FC
   have HRI:=Zh hri
   have I5:=Zh Uz
   clear Vc mi U3 hri Wx Uh P7 Uz
   go_upto_region 5 with (first|((with_reducible refine Y8 173 (.tmp 24) rfl ?_);refine Zm KQ Tryz.underlying173 ?_)|((with_reducible refine ZU 173 (.tmp 9) (.tmp 25) rfl ?_);refine Zs hz ?_))
   clear hz KQ
   generalize ((wr.alloc (.cells (Qd 0 0 0 0 0 0 none 0 0 none 0 0 0 none 0 0) 173)).setRow wr.heap.size (Qd kd ss nt tm pk oc ba bs.length bc ga gn.length gc md pa ps.length pc))=w5 at *
   have y0:w5.cell? ⟨wr,0,none⟩=some (.int .i64 kd):=Zc JQ 0 rfl
   have y1:w5.cell? ⟨wr,1,none⟩=some (.int .u32 ss):=Zc JQ 1 rfl
   have y7:w5.cell? ⟨wr,7,none⟩=some (.slice ga gn.length gc):=Zc JQ 7 rfl
   have y8:w5.cell? ⟨wr,8,none⟩=some (.int .u32 md):=Zc JQ 8 rfl
   clear JQ
   generalize wr.heap.size=kb at *
   have zr:Hid (Yj R peer ⟨kd,ss,nt,tm,pk,oc,bs,gn,md,ps⟩=if kd=200 then (([],R),if owned R peer ss then 0 else 1) else if kd=205∨kd=206 then (([],R),if UG R peer md then 0 else 1) else if kd=203 then Zg peer gn R else (([],R),0)):=rfl
   generalize Yj R peer ⟨kd,ss,nt,tm,pk,oc,bs,gn,md,ps⟩=Y at *
   generalize ps.length=pl at *
   generalize bs.length=bl at *
   by_cases Mv:kd=200
   ·subst Mv
    have jD:Hid (Y=(([],R),if owned R peer ss then 0 else 1)):=by show _=_;rw [zr.o];simp
    have ME:=Zh (EY FC HRI.o peer ss)
    have CO:=Zh (Ni b T ss w5 Vr.o)
    clear zr FC
    generalize owned R peer ss=ow at *
    generalize T.of ss=O at *
    obtain ⟨O1,O2,O3⟩:=O
    dsimp only at CO ME
    have CW:=Zh (fun (w':World) (h:Below w5 w5 w')=>Rv b T O1 w' (Vr.o.below h))
    generalize T.owner O1=q at *
    have Tz:(O3=false∨O3=true∧q≠peer)∨(O3=true∧peer=q):=by cases O3 <;> by_cases hq:q=peer <;> simp [hq,eq_comm]
    rcases Tz with Tz|⟨rfl,rfl⟩
    ·have Eu:ow=false:=by
      cases ow with
      | false=>rfl
      | true=>have:=ME.o.2 rfl;rcases Tz with h|⟨_,h⟩;(rw [h] at this;cases this.1);exact absurd this.2 h
     subst Eu
     have L3:Hid (Y=(([],R),1)):=jD.o
     have HZ:Hid (ZE peer ((L.take (j+1)).map (·.i)) R0=((G1,R),gu+1)):=by show _=_;rw [Mb.o,L3.o];simp
     clear jD ME Mb L3
     rcases Tz with rfl|⟨rfl,hq⟩
     case' inr=>have YZ:(q != peer)=true:=by rw [R6];exact hq
     all_goals
      go_wp2_with (first|(go_at_call 74;refine CO.o.mono ?_;rintro e w6 ⟨rfl,Ep⟩;have R4:=Zh Ep;clear Ep)|(go_at_call 75;refine (CW.o _ R4.o).mono ?_;rintro e w7 ⟨rfl,MK⟩;replace R4:=Zh (R4.o.trans (MK.mono R4.o.size));clear MK))
      go_roundw
      case rel=>exact ⟨j+1,T,Zo,Zn,by rw [HZ.o],Ie.o.trans (Fr.Z8 _ (R4.o.mono Ie.o.size)),Vr.o.below R4.o,by rw [HZ.o];exact MV.o⟩
      case measure=>simp [intOf];omega
    ·have Eu:ow=true:=ME.o.1 ⟨rfl,rfl⟩
     subst Eu
     have L3:Hid (Y=(([],R),0)):=jD.o
     have HZ:Hid (ZE peer ((L.take (j+1)).map (·.i)) R0=((G1,R),gu)):=by show _=_;rw [Mb.o,L3.o];simp
     have YZ:(peer != peer)=false:=by rw [bne_self_eq_false]
     clear jD ME Mb L3
     go_wp2_with (first|(go_at_call 74;refine CO.o.mono ?_;rintro e w6 ⟨rfl,Ep⟩;have R4:=Zh Ep;clear Ep)|(go_at_call 75;refine (CW.o _ R4.o).mono ?_;rintro e w7 ⟨rfl,MK⟩;replace R4:=Zh (R4.o.trans (MK.mono R4.o.size));clear MK))
     exact Yt21
   by_cases br:kd=205∨kd=206
   ·have jD:Hid (Y=(([],R),if UG R peer md then 0 else 1)):=by show _=_;rw [zr.o,Z4 Mv,ZQ br]
    have ME:=Zh (t_ FC peer md)
    have CH:=Zh (xP md w5 td Da)
    clear zr FC
    generalize UG R peer md=ow at *
    generalize Vg md=O at *
    obtain ⟨O1,O2,O3⟩:=O
    dsimp only at CH ME
    have CB:=Zh (Wy b T O1 O2 w5 Vr.o)
    generalize T.Zb O1 O2=q at *
    have R4:=Zh (YH w5.heap.size w5)
    have Tz:(O3=false∨O3=true∧O1≠peer∨O3=true∧peer=O1∧q<0)∨(O3=true∧peer=O1∧0≤q):=by
     have:=Int.lt_or_le q 0
     cases O3 <;> by_cases hq:O1=peer
     ·simp
     ·simp
     ·subst hq;simpa using this
     ·simp [hq]
    rcases Tz with Tz|⟨rfl,rfl,hq⟩
    ·have Eu:ow=false:=by
      cases ow with
      | false=>rfl
      | true=>have:=ME.o.2 rfl;rcases Tz with h|⟨_,h⟩|⟨_,_,h⟩;(rw [h] at this;cases this.1);exact absurd this.2.1 h;exact absurd this.2.2 Zo
     subst Eu
     have L3:Hid (Y=(([],R),1)):=jD.o
     have HZ:Hid (ZE peer ((L.take (j+1)).map (·.i)) R0=((G1,R),gu+1)):=by show _=_;rw [Mb.o,L3.o];simp
     clear jD ME Mb L3
     rcases Tz with rfl|⟨rfl,hq⟩|⟨rfl,rfl,hq⟩
     case' inr.inl=>have YZ:(O1 != peer)=true:=by rw [R6];exact hq
     case' inr.inr=>have YZ:(peer != peer)=false:=by rw [bne_self_eq_false]
     case' inr.inr=>have Y0:decide (q<0)=true:=We hq
     all_goals
      rcases br with rfl|rfl
      all_goals
       go_wp2_with (first|(go_at_call 103;refine CH.o.mono ?_;rintro e w6 ⟨rfl,rfl⟩)|(go_at_call 51;refine CB.o.mono ?_;rintro e w7 ⟨rfl,MK⟩;have R4:=Zh MK;clear MK))
       go_roundw
       case rel=>exact ⟨j+1,T,Zo,Zn,by rw [HZ.o],Ie.o.trans (Fr.Z8 _ (R4.o.mono Ie.o.size)),Vr.o.below R4.o,by rw [HZ.o];exact MV.o⟩
       case measure=>simp [intOf];omega
    ·have Eu:ow=true:=ME.o.1 ⟨rfl,rfl,hq⟩
     subst Eu
     have L3:Hid (Y=(([],R),0)):=jD.o
     have HZ:Hid (ZE peer ((L.take (j+1)).map (·.i)) R0=((G1,R),gu)):=by show _=_;rw [Mb.o,L3.o];simp
     have YZ:(peer != peer)=false:=by rw [bne_self_eq_false]
     have Y0:decide (q<0)=false:=WB Zo
     clear jD ME Mb L3
     rcases br with rfl|rfl
     all_goals
      go_wp2_with (first|(go_at_call 103;refine CH.o.mono ?_;rintro e w6 ⟨rfl,rfl⟩)|(go_at_call 51;refine CB.o.mono ?_;rintro e w7 ⟨rfl,MK⟩;have R4:=Zh MK;clear MK))
      go_roundw
      case rel=>exact ⟨j+1,T,Zo,Zn,by rw [HZ.o],Ie.o.trans (Fr.Z8 _ (R4.o.mono Ie.o.size)),Vr.o.below R4.o,by rw [HZ.o];exact MV.o⟩
      case measure=>simp [intOf];omega
   have e1:(kd == 200)=false:=by rw [WQ];exact Mv
   have e2:(kd == 205)=false:=by rw [WQ];omega
   have e3:(kd == 206)=false:=by rw [WQ];omega
   by_cases IX:kd=203
   rotate_left
   ·have L3:Hid (Y=(([],R),0)):=by show _=_;rw [zr.o,Z4 Mv,Z4 br,Z4 IX]
    have e4:(kd == 203)=false:=by rw [WQ];exact IX
    have R4:=Zh (YH w5.heap.size w5)
    have HZ:Hid (ZE peer ((L.take (j+1)).map (·.i)) R0=((G1,R),gu)):=by show _=_;rw [Mb.o,L3.o];simp
    clear zr Mb L3
    go_wp2_with fail
    exact Yt21
   subst IX
   have L3:Hid (Y=Zg peer gn R):=by show _=_;rw [zr.o,Z4 Mv,Z4 br,ZQ rfl]
   have HTY5:Hid (∀ k c fr,k=b→w5.heap[k]?≠some (.cells c 66 fr)):=(EX Vr.o).ne Zi
   have HGV:Hid (∀ m,Inv (Zg peer (gn.take m) R).1.2∧0≤(Zg peer (gn.take m) R).2∧(Zg peer (gn.take m) R).2≤128):=fun m=>by
    have h:=Ra peer (gn.take m) R HRI.o I5.o
    rw [Tg] at h
    exact ⟨h.1,h.2.2.2.1,by have:=h.2.2.2.2;omega⟩
   clear zr e1 e2 e3 Mv br FC HRI I5 y1 y8
   go_wp2_with fail
   go_loopw [7,80] (fun s7 s80 w'=>∃ (m:Nat) (T2:ZN),m≤gn.length∧s80 = .int .i64 (m:Int)∧s7 = .int .i64 (gu+(Zg peer (gn.take m) R).2)∧Fr w5 (· = b) w5 w'∧ZL w' b T2∧WL T2 (Zg peer (gn.take m) R).1.2) (fun _ s80 _=>gn.length-(intOf s80).toNat)
   case atStart=>exact ⟨0,T,Zo,rfl,by show _=Value.int .i64 (gu+0);rw [Int.add_zero],Fr.refl _ _ _,Vr.o,MV.o⟩
   case round=>
    obtain ⟨m,T2,hm,rfl,rfl,wT,Ps,Aq⟩:=hrel
    have zn:=Zh wT
    have wX:=HGV.o m
    by_cases KO:m<gn.length
    ·obtain ⟨g2,AQ,cap2,e2,-,-,-,Bx⟩:=Rm.NQ (Row.fr HGR.o wT (Zw _) HTY5.o) Zo
     cases e2
     have hc:=Bx m KO
     have HT:=Zh (H7 KO)
     have iH:(m:Int)<(gn.length:Int):=Ou.2 KO
     have kQ:=wI
     clear Bx
     generalize gn.getD m 0=p at *
     have HS:=Zh (OC peer p (gn.take m) R)
     have CG:=Zh (ET b T2 (Zg peer (gn.take m) R).1.2 peer p wr Ps Aq wX.1)
     obtain ⟨-,eT,hv2⟩:=wX
     clear wT Ps Aq
     generalize Zg peer (gn.take m) R=Gm at *
     generalize YS Gm.1.2 peer p=Z at *
     obtain ⟨⟨Z1,Z2⟩,ze⟩:=Z
     obtain ⟨⟨Gm1,Gm2⟩,gmu⟩:=Gm
     dsimp only at CG HS eT hv2
     by_cases hze:ze=0
     case' pos=>have F7:(ze != 0)=false:=by rw [hze];rfl
     case' neg=>have F7:(ze != 0)=true:=by rw [R6];exact hze
     case' pos=>have QO:Hid (Zg peer (gn.take m++[p]) R=((Gm1++Z1,Z2),gmu)):=by show _=_;rw [HS.o];simp [wH,hze]
     case' neg=>have QO:Hid (Zg peer (gn.take m++[p]) R=((Gm1++Z1,Z2),gmu+1)):=by show _=_;rw [HS.o];simp [wH,hze]
     all_goals
      clear HS kQ hze
      go_wp2_with (go_at_call 104;refine CG.o.mono ?_;rintro e w8 ⟨⟨tv,rfl,S8⟩,⟨T3,FA,yY⟩,iy⟩;obtain ⟨ta,tc,pO,-⟩:=id S8;subst pO;have zx:=Zh FA;have Gj:=Zh yY;have aq:=Zh (zn.o.trans (iy.mono zn.o.size (fun _ _ h=>h)));clear S8 FA yY iy)
      go_roundw
      case rel=>exact ⟨m+1,T3,Zo,Zn,by rw [HT.o,QO.o] <;> first|rfl|rw [Int.add_assoc],aq.o,zx.o,by rw [HT.o,QO.o];exact Gj.o⟩
      case measure=>simp [intOf];omega
    ·have hT:gn.take m=gn:=F5 Zo
     rw [hT] at Aq ⊢
     have Gj:=Zh Aq
     have zx:=Zh Ps
     have HZ:Hid (ZE peer ((L.take (j+1)).map (·.i)) R0=((G1++(Zg peer gn R).1.1,(Zg peer gn R).1.2),gu+(Zg peer gn R).2)):=by show _=_;rw [Mb.o,L3.o]
     clear wX HGV wT Ps Aq Mb L3
     generalize Zg peer gn R=Gm at *
     go_wp2_with fail
     go_roundw
     case rel=>exact ⟨j+1,T2,Zo,Zn,by rw [HZ.o],Ie.o.trans (zn.o.mono Ie.o.size (fun _ _ h=>h)),zx.o,by rw [HZ.o];exact Gj.o⟩
     case measure=>simp [intOf];omega
  ·have MM:j=L.length:=by omega
   subst MM
   rw [←HE.o] at FC ⊢
   have MV:=Zh FC
   have Vr:=Zh U3
   clear Wx U3 FC fQ HE P8 Ge
   go_wp2_with fail
   go_ret
   exact ⟨rfl,⟨T,Vr.o,MV.o⟩,Uh.o⟩
end Go.Proofs.By
