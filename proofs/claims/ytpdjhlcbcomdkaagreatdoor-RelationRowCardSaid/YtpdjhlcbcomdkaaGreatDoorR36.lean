/- Part of a proof. -/
import Derived.Test.YtpdjhlcbcomdkaaGreatDoorR35
set_option linter.unusedVariables false
set_option linter.unusedSimpArgs false
set_option maxRecDepth 100000
set_option maxHeartbeats 16000000
open Go Go.Q Go.Qr
namespace Go.Proofs.By
open Go.RowKit Go.Proofs.Heap Go.Proofs
theorem V5 (w:World) (c d:Array Value) (t s:TypeId):((w.alloc (.cells c t)).alloc (.cells d s)).heap[w.heap.size]?=some (.cells c t (0,0))∧((w.alloc (.cells c t)).alloc (.cells d s)).heap[w.heap.size+1]?=some (.cells d s (0,0))∧((w.alloc (.cells c t)).alloc (.cells d s)).heap.size=w.heap.size+2:=by
 have e1:(w.alloc (.cells c t)).heap.size=w.heap.size+1:=by show (w.heap.push _).size=_;rw [OI]
 refine ⟨?_,?_,by show ((w.alloc (.cells c t)).heap.push _).size=_;rw [OI,e1]⟩
 ·rw [(Z' (w.alloc (.cells c t)) _).block _ (by rw [e1];omega)];exact Z8 w _
 ·have h:=Z8 (w.alloc (.cells c t)) (.cells d s);rw [e1] at h;exact h
def Sn (k:Int) (p:KI) (d:FJ) (cv ev pv iv:Value):List Value:= .int .i64 k :: (V_ p d cv ev pv++[iv])
def zl (w:World) (v:Value):Ev→Prop
 | .none=>v = .agg (Sn 0 WT Tu (.slice none 0 0) (.slice none 0 0) (.slice none 0 0) (.slice none 0 0)).toArray
 | .X5 p d=>∃ cv ev pv,v = .agg (Sn 1 p d cv ev pv (.slice none 0 0)).toArray∧Vy w p cv ev pv
 | .XX l=>∃ iv,v = .agg (Sn 2 WT Tu (.slice none 0 0) (.slice none 0 0) (.slice none 0 0) iv).toArray∧YI w iv l
theorem AO {b:List UInt8} (h1:¬512<b.length) (h2:¬b.length<2) (h3:¬(192≤at8 b 1∧at8 b 1≤223)):XN b=if (TG b).2≠0 then (.none,(TG b).2) else (.X5 (TG b).1.1 (TG b).1.2,0):=by
 unfold XN TG;rw [Z4 h1,Z4 h2,Z4 h3];by_cases q1:(YM b).2≠0
 ·rw [ZR q1,ZR q1,ZR q1]
 ·rw [Z4 q1,Z4 q1];by_cases q2:(Yy (YM b).1.ZG).2≠0
  ·rw [ZR q2,ZR q2,ZR q2]
  ·rw [Z4 q2,Z4 q2,Z4 (fun h=>h rfl)]
theorem YI.setRow {w:World} {v:Value} {l:List Ro} (h:YI w v l) {g:Nat} {c:Array Value} {f:Nat × Nat} (hg:w.heap[g]?=some (.cells c 84 f)) (cs:Array Value):YI (w.setRow g cs) v l:=by
 obtain ⟨L,h1,h2,h3⟩:=h;exact ⟨L,h1,Row.setRow h2 hg Zd _,fun x hx=>⟨Row.setRow (h3 x hx).b hg Zd _,Row.setRow (h3 x hx).g hg Zd _,Row.setRow (h3 x hx).p hg Zd _⟩⟩
theorem EF (v:Value) (b:List UInt8) (w:World) (hv:X6 w v b) :
  Calls Tryz.prog 41 #[v] w fun e w'=>(∃ a,e = .returned (.tuple #[a,.int .i64 (XN b).2])∧zl w' a (XN b).1)∧Below w w w':=by
 have HV:Hid (∀ w',Below w w w'→X6 w' v b):=fun w' h=>hv.below h
 have HB:Hid (Below w w (w.alloc (.cells (Qj 0 false 0 0 0 0 none 0 0 false 0 none 0 0 none 0 0 0 0 false false 0 none 0 0) 84))):=Z' w _;have y0:=Z8 w (.cells (Qj 0 false 0 0 0 0 none 0 0 false 0 none 0 0 none 0 0 0 0 false false 0 none 0 0) 84);have hlen:=hv.len;by_cases h1:512<b.length
 ·have HX:Hid (XN b=(.none,5)):=by show _=_;unfold XN;rw [ZR h1]
  obtain ⟨a,c,rfl,-⟩:=id hv;clear hv HV;generalize XN b=X at *
  have l1:decide ((512:Int)<(b.length:Int))=true:=Wi Zo;go_enter Tryz.func41,Tryz.ntmps41;go_wp2_with (first|(with_reducible refine ZU 84 (.tmp 2) (.tmp 13) rfl ?_;refine Zs y0 ?_))
  refine VD (v:= .tuple (Qo (Qj 0 false 0 0 0 0 none 0 0 false 0 none 0 0 none 0 0 0 0 false false 0 none 0 0) 5)) ?_ rfl ?_
  ·exact Yt7
  exact ⟨⟨_,by rw [HX.o],by rw [HX.o];rfl⟩,Z3 HB.o (Zw _) _⟩
 have l1:decide ((512:Int)<(b.length:Int))=false:=WI Zo;by_cases h2:b.length<2
 ·have HX:Hid (XN b=(.none,2)):=by show _=_;unfold XN;rw [Z4 h1,ZR h2]
  obtain ⟨a,c,rfl,-⟩:=id hv;clear hv HV;generalize XN b=X at *
  have l2:decide ((b.length:Int)<2)=true:=Wi Zo;go_enter Tryz.func41,Tryz.ntmps41;go_wp2_with (first|(with_reducible refine ZU 84 (.tmp 2) (.tmp 18) rfl ?_;refine Zs y0 ?_))
  refine VD (v:= .tuple (Qo (Qj 0 false 0 0 0 0 none 0 0 false 0 none 0 0 none 0 0 0 0 false false 0 none 0 0) 2)) ?_ rfl ?_
  ·exact Yt7
  exact ⟨⟨_,by rw [HX.o],by rw [HX.o];rfl⟩,Z3 HB.o (Zw _) _⟩
 have l2:decide ((b.length:Int)<2)=false:=WI Zo;obtain ⟨g,off,c,rfl,R4,zZ,W8⟩:=RR (HV.o _ HB.o) Zo;have d1:=W8 1 Zo;clear W8 hv R4 zZ;have hbI:(1:Int)<(b.length:Int):=by omega
 by_cases h3:192≤at8 b 1∧at8 b 1≤223
 ·have HX:Hid (XN b=if (Yj b).2≠0 then (.none,(Yj b).2) else (.XX (Yj b).1,0)):=by
   show _=_
   conv=>lhs;unfold XN
   rw [Z4 h1,Z4 h2,ZR h3]
  have HC:=Zh (Fv _ b _ (HV.o _ HB.o));clear HV;generalize XN b=X at *
  generalize Yj b=Y at *
  obtain ⟨L,er⟩:=Y;dsimp only at HC HX;obtain ⟨wF,Ee⟩:=h3;generalize at8 b 1=kd at *
  have q1:decide ((192:Int)≤(kd:Int))=true:=Wi Zo;have q2:decide ((kd:Int)≤223)=true:=Wi Zo;go_enter Tryz.func41,Tryz.ntmps41;go_upto_region 7 with (go_at_call 70;refine HC.o.mono ?_;rintro e w2 ⟨⟨iv,rfl,hit⟩,Y7⟩;obtain ⟨ia,ic,zV⟩:=YI.form hit;subst zV;have FV:=Zh hit;have X8:=Zh Y7;clear hit Y7)
  clear HC;replace y0:=(X8.o.block _ (ZW y0)).trans y0;have Wc:Hid (Below w w w2):=HB.o.trans (X8.o.mono HB.o.size);by_cases RU:er=0
  ·subst RU;rw [Z4 Zi] at HX;go_wp2_with (first|(with_reducible refine ZU 84 (.tmp 2) (.tmp 39) rfl ?_;refine Zs y0 ?_))
   refine VD (v:= .tuple (Qo (Qj 2 false 0 0 0 0 none 0 0 false 0 none 0 0 none 0 0 0 0 false false 0 ia L.length ic) 0)) ?_ rfl ?_
   ·exact UJ (p:=2) (u:=3) Zr _ _ w.heap.size 84 (Qj 2 false 0 0 0 0 none 0 0 false 0 none 0 0 none 0 0 0 0 false false 0 ia L.length ic) (0,0) _ Zr (setRow_heap _ _ _ _ _ _ y0) Tryz.underlying84 rfl Zk
   exact ⟨⟨_,by rw [HX.o],by rw [HX.o];exact ⟨_,rfl,FV.o.setRow y0 _⟩⟩,Z3 Wc.o (Zw _) _⟩
  ·have bl:(er != 0)=true:=by rw [RQ];exact RU
   rw [ZR RU] at HX;go_wp2_with (first|(with_reducible refine ZU 84 (.tmp 2) (.tmp 36) rfl ?_;refine Zs y0 ?_))
   refine VD (v:= .tuple (Qo (Qj 0 false 0 0 0 0 none 0 0 false 0 none 0 0 none 0 0 0 0 false false 0 none 0 0) er)) ?_ rfl ?_
   ·exact Yt7
   exact ⟨⟨_,by rw [HX.o],by rw [HX.o];rfl⟩,Z3 Wc.o (Zw _) _⟩
 have HX:Hid (XN b=if (TG b).2≠0 then (.none,(TG b).2) else (.X5 (TG b).1.1 (TG b).1.2,0)):=AO h1 h2 h3;have HC:=Zh (xh _ b _ (HV.o _ HB.o));clear HV;generalize XN b=X at *
 generalize TG b=Y at *
 obtain ⟨⟨P,d⟩,er⟩:=Y;dsimp only at HC HX;have hk:at8 b 1<192∨223<at8 b 1:=by omega
 clear h3;generalize at8 b 1=kd at *
 go_enter Tryz.func41,Tryz.ntmps41;rcases hk with hk|hk
 case' inl=>have q1:decide ((192:Int)≤(kd:Int))=false:=WI Zo
 case' inr=>have q1:decide ((192:Int)≤(kd:Int))=true:=Wi Zo
 case' inr=>have q2:decide ((kd:Int)≤223)=false:=WI Zo
 all_goals
  go_upto_region 11 with (first|(go_at_call 71;refine HC.o.mono ?_;rintro e w2 ⟨⟨a0,rfl,⟨cv,ev,pv,gz,q1,q2,q3⟩⟩,Y7⟩;obtain ⟨ca,cc,FM,-⟩:=id q1;obtain ⟨ea,ec,Ma,-⟩:=id q2;obtain ⟨pa,pc,Md,-⟩:=id q3;subst FM;subst Ma;subst Md;dsimp only [G6] at gz;subst gz;dsimp only [nK];have HR:Hid (Vy w2 P (.slice ca P.VN.length cc) (.slice ea P.ext.length ec) (.slice pa P.ZG.length pc)):=⟨q1,q2,q3⟩;have X8:=Zh Y7;clear q1 q2 q3 Y7;obtain ⟨n0,n1,n2⟩:=V5 w2 (Qb false 0 0 0 0 none 0 0 false 0 none 0 0 none 0 0 0) (Qd 0 false false 0) 79 81)|(with_reducible refine ZU 79 (.tmp 6) (.tmp 43) rfl ?_;refine Zs n0 ?_)|(with_reducible refine ZU 81 (.tmp 7) (.tmp 44) rfl ?_;refine Zs ((setRow_other _ _ _ _ Zo).trans n1) ?_))
  clear HC;have sI:w.heap.size<w2.heap.size:=OS (ZW y0) X8.o.size;have Wc:Hid (Below w w w2):=HB.o.trans (X8.o.mono HB.o.size);have Ux:Hid (Below w2 w2 ((((w2.alloc (.cells (Qb false 0 0 0 0 none 0 0 false 0 none 0 0 none 0 0 0) 79)).alloc (.cells (Qd 0 false false 0) 81)).setRow w2.heap.size (Jv P ca cc ea ec pa pc)).setRow (w2.heap.size+1) (Js d))):=Z3 (Z3 (ZF (Z' w2 _) (Zw _) _) (Zw _) _) (Ix _) _;replace y0:=(Ux.o.block _ sI).trans ((X8.o.block _ (ZW y0)).trans y0);have Rl:Hid (Below w w ((((w2.alloc (.cells (Qb false 0 0 0 0 none 0 0 false 0 none 0 0 none 0 0 0) 79)).alloc (.cells (Qd 0 false false 0) 81)).setRow w2.heap.size (Jv P ca cc ea ec pa pc)).setRow (w2.heap.size+1) (Js d))):=Wc.o.trans (Ux.o.mono Wc.o.size);have y5:((((w2.alloc (.cells (Qb false 0 0 0 0 none 0 0 false 0 none 0 0 none 0 0 0) 79)).alloc (.cells (Qd 0 false false 0) 81)).setRow w2.heap.size (Jv P ca cc ea ec pa pc)).setRow (w2.heap.size+1) (Js d)).heap[w2.heap.size]?=some (.cells (Jv P ca cc ea ec pa pc) 79 (0,0)):=(setRow_other _ _ _ _ Zo).trans (setRow_heap _ _ _ _ _ _ n0)
  have y6:((((w2.alloc (.cells (Qb false 0 0 0 0 none 0 0 false 0 none 0 0 none 0 0 0) 79)).alloc (.cells (Qd 0 false false 0) 81)).setRow w2.heap.size (Jv P ca cc ea ec pa pc)).setRow (w2.heap.size+1) (Js d)).heap[w2.heap.size+1]?=some (.cells (Js d) 81 (0,0)):=setRow_heap _ _ _ _ _ _ ((setRow_other _ _ _ _ Zo).trans n1);have MN:=Zh (HR.o.below Ux.o);by_cases RU:er=0
  ·subst RU;rw [Z4 Zi] at HX;have HRZ:=Vy.setRow MN.o y0 Zd Zd (Jr 1 P ca cc ea ec pa pc d none 0 0);go_wp2_with (first|(with_reducible refine Zj 79 (.tmp 6) rfl ?_;refine Zl y5 Tryz.underlying79 ?_)|(with_reducible refine Zj 81 (.tmp 7) rfl ?_;refine Zl y6 Tryz.underlying81 ?_)|(with_reducible refine ZU 84 (.tmp 2) (.tmp 52) rfl ?_;refine Zs y0 ?_))
   refine VD (v:= .tuple (Qo (Jr 1 P ca cc ea ec pa pc d none 0 0) 0)) ?_ rfl ?_
   ·exact UJ (p:=2) (u:=3) Zr _ _ w.heap.size 84 (Jr 1 P ca cc ea ec pa pc d none 0 0) (0,0) _ Zr (setRow_heap _ _ _ _ _ _ y0) Tryz.underlying84 rfl Zk
   exact ⟨⟨_,by rw [HX.o],by rw [HX.o];exact ⟨_,_,_,rfl,HRZ⟩⟩,Z3 Rl.o (Zw _) _⟩
  ·have bl:(er != 0)=true:=by rw [RQ];exact RU
   rw [ZR RU] at HX;go_wp2_with (first|(with_reducible refine ZU 84 (.tmp 2) (.tmp 48) rfl ?_;refine Zs y0 ?_))
   refine VD (v:= .tuple (Qo (Qj 0 false 0 0 0 0 none 0 0 false 0 none 0 0 none 0 0 0 0 false false 0 none 0 0) er)) ?_ rfl ?_
   ·exact UJ (p:=2) (u:=3) Zr _ _ w.heap.size 84 (Qj 0 false 0 0 0 0 none 0 0 false 0 none 0 0 none 0 0 0 0 false false 0 none 0 0) (0,0) _ Zr (setRow_heap _ _ _ _ _ _ y0) Tryz.underlying84 rfl Zk
   exact ⟨⟨_,by rw [HX.o],by rw [HX.o];rfl⟩,Z3 Rl.o (Zw _) _⟩
open Go.Proofs.Rm (ZL ZN)
structure yj where
 e:Ev
 cv:Value
 ev:Value
 pv:Value
 iv:Value
def Xu (x:yj):List Value:=Sn x.e.kd x.e.pk x.e.ds x.cv x.ev x.pv x.iv
structure Il (w:World) (x:yj):Prop where
 p:Vy w x.e.pk x.cv x.ev x.pv
 i:YI w x.iv x.e.il
theorem zl.form {w:World} {v:Value} {e:Ev} (h:zl w v e):∃ cv ev pv iv,v = .agg (Xu ⟨e,cv,ev,pv,iv⟩).toArray∧Il w ⟨e,cv,ev,pv,iv⟩:=by
 cases e with
 | none=>exact ⟨_,_,_,_,h,Vy.nil w,YI.nil w⟩
 | X5 p d=>obtain ⟨cv,ev,pv,h1,h2⟩:=h;exact ⟨_,_,_,_,h1,h2,YI.nil w⟩
 | XX l=>obtain ⟨iv,h1,h2⟩:=h;exact ⟨_,_,_,_,h1,Vy.nil w,h2⟩
theorem nL:Elem Tryz.prog 38 84 17 168:=⟨Tryz.underlying38,⟨.agg (Qj 0 false 0 0 0 0 none 0 0 false 0 none 0 0 none 0 0 0 0 false false 0 none 0 0),by kernel_rfl,rfl⟩,by decide⟩
def Na:List TypeId:=[44,35,84,59,66,5,173,228,226]
def Off (ts:List TypeId) (w:World) (S:Nat→Prop):Prop:=∀ e∈ts,∀ j c fr,S j→w.heap[j]?≠some (.cells c e fr)
theorem Ru {ts:List TypeId} {w:World} {B:Nat} {e:TypeId} {s:Nat} {v:Value} {n:Nat} {xs:List Value} (h:w.ownsRow B e s v n xs) (WK:e ∉ ts):Off ts w (fun j=>v.ownBlock=some j):=fun e2 he=>Za h (fun h=>WK (h▸he))
theorem UY {ts:List TypeId} {w:World} {k:Nat} {cs:Array Value} {e:TypeId} {f:Nat × Nat} (h:w.heap[k]?=some (.cells cs e f)) (WK:e ∉ ts):Off ts w (· = k):=by
 intro e2 he j c fr hj hc;rw [hj,h] at hc;injection hc with hc
 injection hc with _ hc
 exact WK (hc▸he)
theorem pH {ts:List TypeId} {w:World} {S T:Nat→Prop} (h1:Off ts w S) (h2:Off ts w T):Off ts w (fun j=>S j∨T j):=fun e he j c fr hj=>hj.elim (fun h=>h1 e he j c fr h) (fun h=>h2 e he j c fr h)
theorem Il.below {w w':World} {x:yj} (h:Il w x) (hb:Below w w w'):Il w' x:=⟨h.p.below hb,h.i.below hb⟩
theorem Il.frO {w w':World} {x:yj} {S:Nat→Prop} (h:Il w x) (hf:Fr w S w w') (hS:Off [66,5,173,228,226] w S):Il w' x:=by
 refine ⟨h.p.yz hf (hS _ Zi) (hS _ Zi),?_⟩;obtain ⟨L,h1,h2,h3⟩:=h.i;exact ⟨L,h1,Row.fr h2 hf (Zw _) (hS _ Zi),fun y hy=>(h3 y hy).yz hf (hS _ Zi) (hS _ Zi) (hS _ Zi)⟩
theorem Ul {w w':World} {b:Nat} {T:ZN} {S:Nat→Prop} (h:ZL w b T) (hf:Fr w S w w') (hS:Off [91,103,108,105,66] w S):ZL w' b T:=by
 have hl:=h.lt;obtain ⟨pv,sv,uv,hc,ht⟩:=h.Vw;exact ⟨pv,sv,uv,by rw [hf.block b hl (fun hs=>hS _ Zi _ _ _ hs hc)];exact hc,ht.fr hf (Zw _) (hS _ Zi) (hS _ Zi) (hS _ Zi) (hS _ Zi)⟩
theorem Ut {w w':World} {B:Nat} {e:TypeId} {s:Nat} {v:Value} {n:Nat} {xs:List Value} {S:Nat→Prop} {ts:List TypeId} (h:w.ownsRow B e s v n xs) (hf:Fr w S w w') (hS:Off ts w S) (he:e∈ts):w'.ownsRow B e s v n xs:=
 XQ h fun j hj=>by
  obtain ⟨cur,hc⟩:=Wo h j hj;exact hf.block j (ZW hc) (fun hs=>hS _ he _ _ _ hs hc)
structure WM (B:Nat) (w:World) (k:Nat) (cs:Array Value) (av:Value) (A:List FI) (ev:Value) (E:List yj) (lv:Value) (LS:List Zu):Prop where
 Y8:w.heap[k]?=some (.cells cs 44 (0,0))
 XC:w.ownsRow B 35 4 av A.length (A.flatMap Vn)
 B_:w.ownsRow B 84 17 ev E.length (E.flatMap Xu)
 each:∀ x∈E,Il w x
 P4:w.ownsRow B 59 4 lv LS.length (LS.flatMap ZX)
section
variable {B:Nat} {w w':World} {k:Nat} {cs:Array Value} {av:Value} {A:List FI} {ev:Value} {E:List yj} {lv:Value} {LS:List Zu}
theorem WM.below (h:WM B w k cs av A ev E lv LS) (hb:Below w w w'):WM B w' k cs av A ev E lv LS:=
 ⟨(hb.block _ (ZW h.Y8)).trans h.Y8,Yw h.XC hb,Yw h.B_ hb,fun x hx=>(h.each x hx).below hb,Yw h.P4 hb⟩
theorem WM.frS (h:WM B w k cs av A ev E lv LS) {S:Nat→Prop} (hf:Fr w S w w') (hS:Off (Na.drop 1) w S) {cs':Array Value} (hk:w'.heap[k]?=some (.cells cs' 44 (0,0))):WM B w' k cs' av A ev E lv LS:=
 ⟨hk,Ut h.XC hf hS Zd,Ut h.B_ hf hS Zd,fun x hx=>(h.each x hx).frO hf (fun e he=>hS e (by revert e;decide)),Ut h.P4 hf hS Zd⟩
theorem WM.Hd (h:WM B w k cs av A ev E lv LS) (o:Nat) (u:Value):WM B (w.setCell ⟨k,o,none⟩ u) k (cs.setIfInBounds o u) av A ev E lv LS:=
 h.frS (S:=(· = k)) ((Fr.refl _ _ _).setAt _ _) (UY h.Y8 Zd) (VH h.Y8 o u)
theorem WM.zN (h:WM B w k cs av A ev E lv LS) (hg:w.grownBy w' lv.ownBlock) {Cx:Value} {vG:List Zu} (ho:w'.ownsRow B 59 4 Cx vG.length (vG.flatMap ZX)):WM B w' k cs av A ev E Cx vG:=by
 have o:=Ru (ts:=Na.erase 59) h.P4 Zd;exact ⟨(hg.block _ (ZW h.Y8) (fun e=>o _ Zd _ _ _ e.symm h.Y8)).trans h.Y8,Ut h.XC (XY hg) o Zd,Ut h.B_ (XY hg) o Zd,fun x hx=>(h.each x hx).frO (XY hg) (fun e he=>o e (by revert e;decide)),ho⟩
theorem WM.D7 (h:WM B w k cs av A ev E lv LS) (hg:w.grownBy w' av.ownBlock) {av':Value} {A':List FI} (ho:w'.ownsRow B 35 4 av' A'.length (A'.flatMap Vn)):WM B w' k cs av' A' ev E lv LS:=by
 have o:=Ru (ts:=Na.erase 35) h.XC Zd;exact ⟨(hg.block _ (ZW h.Y8) (fun e=>o _ Zd _ _ _ e.symm h.Y8)).trans h.Y8,ho,Ut h.B_ (XY hg) o Zd,fun x hx=>(h.each x hx).frO (XY hg) (fun e he=>o e (by revert e;decide)),Ut h.P4 (XY hg) o Zd⟩
theorem WM.nQ (h:WM B w k cs av A ev E lv LS) (hg:w.grownBy w' ev.ownBlock) {ev':Value} {x:yj} (hx:Il w x) (ho:w'.ownsRow B 84 17 ev' (E++[x]).length ((E++[x]).flatMap Xu)):WM B w' k cs av A ev' (E++[x]) lv LS:=by
 have o:=Ru (ts:=Na.erase 84) h.B_ Zd
 exact ⟨(hg.block _ (ZW h.Y8) (fun e=>o _ Zd _ _ _ e.symm h.Y8)).trans h.Y8,Ut h.XC (XY hg) o Zd,ho,fun y hy=>by
  rcases DN.1 hy with hy|hy
  ·exact (h.each y hy).frO (XY hg) (fun e he=>o e (by revert e;decide))
  ·rw [J1.1 hy];exact hx.frO (XY hg) (fun e he=>o e (by revert e;decide)),Ut h.P4 (XY hg) o Zd⟩
theorem WM.eo (h:WM B w k cs av A ev E lv LS) {S:Nat→Prop} (hf:Fr w S w w') (hS:Off (Na.erase 59) w S) {vG:List Zu} (ho:w'.ownsRow B 59 4 lv vG.length (vG.flatMap ZX)):WM B w' k cs av A ev E lv vG:=
 ⟨(hf.block _ (ZW h.Y8) (fun hs=>hS _ Zd _ _ _ hs h.Y8)).trans h.Y8,Ut h.XC hf hS Zd,Ut h.B_ hf hS Zd,fun x hx=>(h.each x hx).frO hf (fun e he=>hS e (by revert e;decide)),ho⟩
end
end Go.Proofs.By
namespace Go.Proofs.By
open Go.RowKit Go.Proofs.Heap Go.Proofs
open Go.Proofs.Rm (ZN WH Inv V8 Room ZL M6 Re Wv EE YS YO)
theorem EG {w:World} {b:Nat} {T:ZN} (h:ZL w b T):KE w (· = b):=by
 obtain ⟨_,_,_,hc,_⟩:=h.Vw;intro k hk;subst hk;exact ⟨_,_,_,hc,by decide,by decide,by decide,by decide,by decide,by decide,by decide⟩
theorem A9 (b:Nat) (T0:ZN) (R0:Room) (peer:Int) (v:Value) (l:List Ro) (w:World) (hR:ZL w b T0) (sI:WH T0 R0) (hI:Inv R0) (hS:V8 R0) (hv:YI w v l) (Wq:∀ i∈l,S9 i) (hl:l.length≤8) :
  Calls Tryz.prog 73 #[.pointer (some ⟨b,0,none⟩),.int .i64 peer,v] w fun e w'=>e = .returned (.int .i64 (ZC peer l R0).2)∧(∃ T',ZL w' b T'∧WH T' (ZC peer l R0).1.2)∧Fr w (· = b) w w':=by
 obtain ⟨L,hlL,PF⟩:=hv;obtain ⟨va,vc,rfl⟩:=Row.form PF.row;have eN:=Zh (EG hR);have FW:=Zh PF;have HR0:=Zh hR;have F3:=Zh sI;have PJ:Hid (∀ x∈L,S9 x.i):=fun x hx=>Wq _ (by rw [hlL];exact List.mem_map_of_mem hx)
 have hLl:L.length≤8:=by have:=congrArg List.length hlL;rw [TB] at this;omega
 have eY:Hid (∀ j,Inv (ZC peer ((L.take j).map (·.i)) R0).1.2∧V8 (ZC peer ((L.take j).map (·.i)) R0).1.2∧0≤(ZC peer ((L.take j).map (·.i)) R0).2∧(ZC peer ((L.take j).map (·.i)) R0).2≤8000):=fun j=>by
  have h:=QV peer ((L.take j).map (·.i)) R0 hI hS (fun i hi=>by
   obtain ⟨x,hx,rfl⟩:=vO.1 hi
   exact PJ.o x (List.mem_of_mem_take hx))
  refine ⟨h.1,h.2.1,h.2.2.2.1,Int.le_trans h.2.2.2.2 ?_⟩;have:((L.take j).map (·.i)).length≤8:=by rw [TB,S4];omega
  omega
 have HE:Hid (ZC peer l R0=ZC peer ((L.take L.length).map (·.i)) R0):=by show _=_;rw [nv,←hlL]
 generalize ZC peer l R0=X at *
 have HTY:Hid (∀ k c fr,k=b→w.heap[k]?≠some (.cells c 66 fr)):=eN.o.ne Zi;clear hR sI hI hS Wq hlL hl PF;go_enter Tryz.func73,Tryz.ntmps73;go_wp2_with fail
 go_loopw [7,22] (fun s7 s22 w'=>∃ (j:Nat) (T:ZN),j≤L.length∧s22 = .int .i64 (j:Int)∧s7 = .int .i64 (ZC peer ((L.take j).map (·.i)) R0).2∧Fr w (· = b) w w'∧ZL w' b T∧WH T (ZC peer ((L.take j).map (·.i)) R0).1.2) (fun _ s22 _=>L.length-(intOf s22).toNat)
 case atStart=>exact ⟨0,T0,Zo,rfl,rfl,Fr.refl _ _ _,HR0.o,F3.o⟩
 case round=>
  obtain ⟨j,T,hj,rfl,rfl,Wu,UX,Fj⟩:=hrel;have T8:=Zh Wu;clear HR0 F3;by_cases RV:j<L.length
  ·have ZY:=Ms.fr FW.o Wu eN.o;obtain ⟨g',off',e1,VQ⟩:=Su YX 10 (fun _=>rfl) ZY.row Zo;cases e1;have hx:L[j]?=some L[j]:=Vb RV;have VQ:=VQ j _ hx;have Mx:=ZY.each L[j] (PA RV);have Wq:=PJ.o L[j] (PA RV)
   have LQ:Hid (ZC peer ((L.take (j+1)).map (·.i)) R0=(((ZC peer ((L.take j).map (·.i)) R0).1.1++(Yf (ZC peer ((L.take j).map (·.i)) R0).1.2 peer L[j].i).1.1,(Yf (ZC peer ((L.take j).map (·.i)) R0).1.2 peer L[j].i).1.2),(ZC peer ((L.take j).map (·.i)) R0).2+(Yf (ZC peer ((L.take j).map (·.i)) R0).1.2 peer L[j].i).2)):=by
    show _=_;rw [Rb hx,NR];exact Om peer L[j].i _ R0
   have zV:=eY.o j;clear ZY hx;generalize L[j]=x at *
   generalize ZC peer ((L.take j).map (·.i)) R0=G at *
   obtain ⟨⟨G1,R⟩,gu⟩:=G;obtain ⟨i,bv,gv,pv⟩:=x;obtain ⟨ba,bc,n_⟩:=Row.form Mx.b;obtain ⟨ga,gc,wD⟩:=Row.form Mx.g;obtain ⟨pa,pc,Md⟩:=Row.form Mx.p;have lA:=Mx.g;clear Mx;obtain ⟨kd,ss,nt,tm,pk,oc,bs,gn,md,ps⟩:=i;have sB:=Wq.m0;have Cm:=Wq.m1;have Bh:=Wq.g;clear Wq;dsimp only at n_ wD Md lA sB Cm Bh LQ zV Fj ⊢;subst n_;subst wD;subst Md;obtain ⟨hri,Uw,hg0,hg8⟩:=zV;have M3:wr.rangeAt g' (off'+j*10) (Qe kd ss nt tm pk oc ba bs.length bc ga gn.length gc md pa ps.length pc):=fun m v hm=>(VQ m (by have h:=(List.getElem?_eq_some_iff.1 hm).1;simpa using h)).trans hm
   have zW:(j:Int)<(L.length:Int):=OP.2 RV;have hz:=Z8 wr (.cells (Qe 0 0 0 0 0 0 none 0 0 none 0 0 0 none 0 0) 173);have JF:=setRow_heap _ _ _ (Qe kd ss nt tm pk oc ba bs.length bc ga gn.length gc md pa ps.length pc) _ _ hz;have Rl:Hid (Below wr wr ((wr.alloc (.cells (Qe 0 0 0 0 0 0 none 0 0 none 0 0 0 none 0 0) 173)).setRow wr.heap.size (Qe kd ss nt tm pk oc ba bs.length bc ga gn.length gc md pa ps.length pc))):=Z3 (Z' wr _) (Zw _) _;have HGR:=Zh (Row.below lA Rl.o);have Vm:=Zh (UX.below Rl.o);have Hv:Hid (Fr w (· = b) w ((wr.alloc (.cells (Qe 0 0 0 0 0 0 none 0 0 none 0 0 0 none 0 0) 173)).setRow wr.heap.size (Qe kd ss nt tm pk oc ba bs.length bc ga gn.length gc md pa ps.length pc))):=Wu.trans (Fr.Z7 _ (Rl.o.mono Wu.size));have MG:=Zh Fj;have HRI:=Zh hri;have Ky:=Zh Uw;clear VQ lA UX hri Wu T8 Rl Uw;go_upto_region 5 with (first|(with_reducible refine Zj 173 (.tmp 24) rfl ?_;refine Zm M3 Tryz.underlying173 ?_)|(with_reducible refine ZU 173 (.tmp 9) (.tmp 25) rfl ?_;refine Zs hz ?_))
   clear hz M3;generalize ((wr.alloc (.cells (Qe 0 0 0 0 0 0 none 0 0 none 0 0 0 none 0 0) 173)).setRow wr.heap.size (Qe kd ss nt tm pk oc ba bs.length bc ga gn.length gc md pa ps.length pc))=w5 at *
   have y0:w5.cell? ⟨wr,0,none⟩=some (.int .i64 kd):=Zc JF 0 rfl;have y1:w5.cell? ⟨wr,1,none⟩=some (.int .u32 ss):=Zc JF 1 rfl;have y7:w5.cell? ⟨wr,7,none⟩=some (.slice ga gn.length gc):=Zc JF 7 rfl;have y8:w5.cell? ⟨wr,8,none⟩=some (.int .u32 md):=Zc JF 8 rfl;clear JF;generalize wr.heap.size=kb at *
   have yQ:Hid (Yf R peer ⟨kd,ss,nt,tm,pk,oc,bs,gn,md,ps⟩=if kd=200 then (([],R),if owned R peer ss then 0 else 1) else if kd=205∨kd=206 then (([],R),if Uy R peer md then 0 else 1) else if kd=203 then Ze peer gn R else (([],R),0)):=rfl;generalize Yf R peer ⟨kd,ss,nt,tm,pk,oc,bs,gn,md,ps⟩=Y at *
   generalize ps.length=pl at *
   generalize bs.length=bl at *
   by_cases Mh:kd=200
   ·subst Mh;have iR:Hid (Y=(([],R),if owned R peer ss then 0 else 1)):=by show _=_;rw [yQ.o];simp
    have Mq:=Zh (EH Fj HRI.o peer ss);have CO:=Zh (M6 b T ss w5 Vm.o);clear yQ Fj;generalize owned R peer ss=ow at *
    generalize T.of ss=O at *
    obtain ⟨O1,O2,O3⟩:=O;dsimp only at CO Mq;have CW:=Zh (fun (w':World) (h:Below w5 w5 w')=>Re b T O1 w' (Vm.o.below h));generalize T.owner O1=q at *
    have Tn:(O3=false∨O3=true∧q≠peer)∨(O3=true∧peer=q):=by cases O3 <;> by_cases hq:q=peer <;> simp [hq,eq_comm]
    rcases Tn with Tn|⟨rfl,rfl⟩
    ·have Eh:ow=false:=by
      cases ow with
      | false=>rfl
      | true=>have:=Mq.o.2 rfl;rcases Tn with h|⟨_,h⟩;(rw [h] at this;cases this.1);exact absurd this.2 h
     subst Eh;have LH:Hid (Y=(([],R),1)):=iR.o;have HZ:Hid (ZC peer ((L.take (j+1)).map (·.i)) R0=((G1,R),gu+1)):=by show _=_;rw [LQ.o,LH.o];simp
     clear iR Mq LQ LH;rcases Tn with rfl|⟨rfl,hq⟩
     case' inr=>have YY:(q != peer)=true:=by rw [RQ];exact hq
     all_goals
      go_wp2_with (first|(go_at_call 74;refine CO.o.mono ?_;rintro e w6 ⟨rfl,Ec⟩;have RM:=Zh Ec;clear Ec)|(go_at_call 75;refine (CW.o _ RM.o).mono ?_;rintro e w7 ⟨rfl,Mw⟩;replace RM:=Zh (RM.o.trans (Mw.mono RM.o.size));clear Mw))
      go_roundw
      case rel=>exact ⟨j+1,T,Zo,Zn,by rw [HZ.o],Hv.o.trans (Fr.Z7 _ (RM.o.mono Hv.o.size)),Vm.o.below RM.o,by rw [HZ.o];exact MG.o⟩
      case measure=>simp [intOf];omega
    ·have Eh:ow=true:=Mq.o.1 ⟨rfl,rfl⟩;subst Eh;have LH:Hid (Y=(([],R),0)):=iR.o;have HZ:Hid (ZC peer ((L.take (j+1)).map (·.i)) R0=((G1,R),gu)):=by show _=_;rw [LQ.o,LH.o];simp
     have YY:(peer != peer)=false:=by rw [bne_self_eq_false]
     clear iR Mq LQ LH;go_wp2_with (first|(go_at_call 74;refine CO.o.mono ?_;rintro e w6 ⟨rfl,Ec⟩;have RM:=Zh Ec;clear Ec)|(go_at_call 75;refine (CW.o _ RM.o).mono ?_;rintro e w7 ⟨rfl,Mw⟩;replace RM:=Zh (RM.o.trans (Mw.mono RM.o.size));clear Mw))
     exact Yt20
   by_cases aw:kd=205∨kd=206
   ·have iR:Hid (Y=(([],R),if Uy R peer md then 0 else 1)):=by show _=_;rw [yQ.o,Z4 Mh,ZR aw]
    have Mq:=Zh (tG Fj peer md);have CH:=Zh (xk md w5 sB Cm);clear yQ Fj;generalize Uy R peer md=ow at *
    generalize U9 md=O at *
    obtain ⟨O1,O2,O3⟩:=O;dsimp only at CH Mq;have CB:=Zh (Wv b T O1 O2 w5 Vm.o);generalize T.Y9 O1 O2=q at *
    have RM:=Zh (YJ w5.heap.size w5)
    have Tn:(O3=false∨O3=true∧O1≠peer∨O3=true∧peer=O1∧q<0)∨(O3=true∧peer=O1∧0≤q):=by
     have:=Int.lt_or_le q 0;cases O3 <;> by_cases hq:O1=peer
     ·simp
     ·simp
     ·subst hq;simpa using this
     ·simp [hq]
    rcases Tn with Tn|⟨rfl,rfl,hq⟩
    ·have Eh:ow=false:=by
      cases ow with
      | false=>rfl
      | true=>have:=Mq.o.2 rfl;rcases Tn with h|⟨_,h⟩|⟨_,_,h⟩;(rw [h] at this;cases this.1);exact absurd this.2.1 h;exact absurd this.2.2 Zo
     subst Eh;have LH:Hid (Y=(([],R),1)):=iR.o;have HZ:Hid (ZC peer ((L.take (j+1)).map (·.i)) R0=((G1,R),gu+1)):=by show _=_;rw [LQ.o,LH.o];simp
     clear iR Mq LQ LH;rcases Tn with rfl|⟨rfl,hq⟩|⟨rfl,rfl,hq⟩
     case' inr.inl=>have YY:(O1 != peer)=true:=by rw [RQ];exact hq
     case' inr.inr=>have YY:(peer != peer)=false:=by rw [bne_self_eq_false]
     case' inr.inr=>have Y7:decide (q<0)=true:=Wi hq
     all_goals
      rcases aw with rfl|rfl
      all_goals
       go_wp2_with (first|(go_at_call 103;refine CH.o.mono ?_;rintro e w6 ⟨rfl,rfl⟩)|(go_at_call 51;refine CB.o.mono ?_;rintro e w7 ⟨rfl,Mw⟩;have RM:=Zh Mw;clear Mw))
       go_roundw
       case rel=>exact ⟨j+1,T,Zo,Zn,by rw [HZ.o],Hv.o.trans (Fr.Z7 _ (RM.o.mono Hv.o.size)),Vm.o.below RM.o,by rw [HZ.o];exact MG.o⟩
       case measure=>simp [intOf];omega
    ·have Eh:ow=true:=Mq.o.1 ⟨rfl,rfl,hq⟩;subst Eh;have LH:Hid (Y=(([],R),0)):=iR.o;have HZ:Hid (ZC peer ((L.take (j+1)).map (·.i)) R0=((G1,R),gu)):=by show _=_;rw [LQ.o,LH.o];simp
     have YY:(peer != peer)=false:=by rw [bne_self_eq_false]
     have Y7:decide (q<0)=false:=WI Zo;clear iR Mq LQ LH;rcases aw with rfl|rfl
     all_goals
      go_wp2_with (first|(go_at_call 103;refine CH.o.mono ?_;rintro e w6 ⟨rfl,rfl⟩)|(go_at_call 51;refine CB.o.mono ?_;rintro e w7 ⟨rfl,Mw⟩;have RM:=Zh Mw;clear Mw))
      go_roundw
      case rel=>exact ⟨j+1,T,Zo,Zn,by rw [HZ.o],Hv.o.trans (Fr.Z7 _ (RM.o.mono Hv.o.size)),Vm.o.below RM.o,by rw [HZ.o];exact MG.o⟩
      case measure=>simp [intOf];omega
   have e1:(kd == 200)=false:=by rw [WR];exact Mh
   have e2:(kd == 205)=false:=by rw [WR];omega
   have e3:(kd == 206)=false:=by rw [WR];omega
   by_cases IC:kd=203
   rotate_left
   ·have LH:Hid (Y=(([],R),0)):=by show _=_;rw [yQ.o,Z4 Mh,Z4 aw,Z4 IC]
    have e4:(kd == 203)=false:=by rw [WR];exact IC
    have RM:=Zh (YJ w5.heap.size w5);have HZ:Hid (ZC peer ((L.take (j+1)).map (·.i)) R0=((G1,R),gu)):=by show _=_;rw [LQ.o,LH.o];simp
    clear yQ LQ LH;go_wp2_with fail
    exact Yt20
   subst IC;have LH:Hid (Y=Ze peer gn R):=by show _=_;rw [yQ.o,Z4 Mh,Z4 aw,ZR rfl]
   have HTY5:Hid (∀ k c fr,k=b→w5.heap[k]?≠some (.cells c 66 fr)):=(EG Vm.o).ne Zi
   have HGV:Hid (∀ m,Inv (Ze peer (gn.take m) R).1.2∧0≤(Ze peer (gn.take m) R).2∧(Ze peer (gn.take m) R).2≤128):=fun m=>by
    have h:=QQ peer (gn.take m) R HRI.o Ky.o;rw [S4] at h;exact ⟨h.1,h.2.2.2.1,by have:=h.2.2.2.2;omega⟩
   clear yQ e1 e2 e3 Mh aw Fj HRI Ky y1 y8;go_wp2_with fail
   go_loopw [7,80] (fun s7 s80 w'=>∃ (m:Nat) (T2:ZN),m≤gn.length∧s80 = .int .i64 (m:Int)∧s7 = .int .i64 (gu+(Ze peer (gn.take m) R).2)∧Fr w5 (· = b) w5 w'∧ZL w' b T2∧WH T2 (Ze peer (gn.take m) R).1.2) (fun _ s80 _=>gn.length-(intOf s80).toNat)
   case atStart=>exact ⟨0,T,Zo,rfl,by show _=Value.int .i64 (gu+0);rw [Int.add_zero],Fr.refl _ _ _,Vm.o,MG.o⟩
   case round=>
    obtain ⟨m,T2,hm,rfl,rfl,wu,Pb,Aa⟩:=hrel;have yN:=Zh wu;have wD:=HGV.o m;by_cases MJ:m<gn.length
    ·obtain ⟨g2,Au,cap2,e2,-,-,-,Bg⟩:=Rm.NC (Row.fr HGR.o wu (Zw _) HTY5.o) Zo;cases e2;have hc:=Bg m MJ;have HT:=Zh (Hl MJ);have kp:(m:Int)<(gn.length:Int):=OP.2 MJ;have j3:=vT;clear Bg;generalize gn.getD m 0=p at *
     have HS:=Zh (Oi peer p (gn.take m) R);have CG:=Zh (EE b T2 (Ze peer (gn.take m) R).1.2 peer p wr Pb Aa wD.1);obtain ⟨-,dS,hv2⟩:=wD;clear wu Pb Aa;generalize Ze peer (gn.take m) R=Gm at *
     generalize YS Gm.1.2 peer p=Z at *
     obtain ⟨⟨Z1,Z2⟩,ze⟩:=Z;obtain ⟨⟨Gm1,Gm2⟩,gmu⟩:=Gm;dsimp only at CG HS dS hv2;by_cases hze:ze=0
     case' pos=>have FN:(ze != 0)=false:=by rw [hze];rfl
     case' neg=>have FN:(ze != 0)=true:=by rw [RQ];exact hze
     case' pos=>have QC:Hid (Ze peer (gn.take m++[p]) R=((Gm1++Z1,Z2),gmu)):=by show _=_;rw [HS.o];simp [vS,hze]
     case' neg=>have QC:Hid (Ze peer (gn.take m++[p]) R=((Gm1++Z1,Z2),gmu+1)):=by show _=_;rw [HS.o];simp [vS,hze]
     all_goals
      clear HS j3 hze;go_wp2_with (go_at_call 104;refine CG.o.mono ?_;rintro e w8 ⟨⟨tv,rfl,S3⟩,⟨T3,Fh,Cq⟩,gI⟩;obtain ⟨ta,tc,oY,-⟩:=id S3;subst oY;have yU:=Zh Fh;have F4:=Zh Cq;have HF3:=Zh (yN.o.trans (gI.mono yN.o.size (fun _ _ h=>h)));clear S3 Fh Cq gI)
      go_roundw
      case rel=>exact ⟨m+1,T3,Zo,Zn,by rw [HT.o,QC.o] <;> first|rfl|rw [Int.add_assoc],HF3.o,yU.o,by rw [HT.o,QC.o];exact F4.o⟩
      case measure=>simp [intOf];omega
    ·have hT:gn.take m=gn:=FL Zo;rw [hT] at Aa ⊢;have F4:=Zh Aa;have yU:=Zh Pb;have HZ:Hid (ZC peer ((L.take (j+1)).map (·.i)) R0=((G1++(Ze peer gn R).1.1,(Ze peer gn R).1.2),gu+(Ze peer gn R).2)):=by show _=_;rw [LQ.o,LH.o]
     clear wD HGV wu Pb Aa LQ LH;generalize Ze peer gn R=Gm at *
     go_wp2_with fail
     go_roundw
     case rel=>exact ⟨j+1,T2,Zo,Zn,by rw [HZ.o],Hv.o.trans (yN.o.mono Hv.o.size (fun _ _ h=>h)),yU.o,by rw [HZ.o];exact F4.o⟩
     case measure=>simp [intOf];omega
  ·have Mc:j=L.length:=by omega
   subst Mc;rw [←HE.o] at Fj ⊢;have MG:=Zh Fj;have Vm:=Zh UX;clear Wu UX Fj eY HE PJ FW;go_wp2_with fail
   go_ret;exact ⟨rfl,⟨T,Vm.o,MG.o⟩,T8.o⟩
end Go.Proofs.By
