/- Part of a proof. -/
import Derived.Test.YtpdjhlcbcomdkaaGreatDoorF31
set_option linter.unusedVariables false
set_option linter.unusedSimpArgs false
set_option maxRecDepth 100000
set_option maxHeartbeats 16000000
open Go Go.Q Go.Qr
namespace Go.Proofs.By
open Go.RowKit Go.Proofs.Heap Go.Proofs
theorem Wm (w:World) (c d:Array Value) (t s:TypeId):((w.alloc (.cells c t)).alloc (.cells d s)).heap[w.heap.size]?=some (.cells c t (0,0))∧((w.alloc (.cells c t)).alloc (.cells d s)).heap[w.heap.size+1]?=some (.cells d s (0,0))∧((w.alloc (.cells c t)).alloc (.cells d s)).heap.size=w.heap.size+2:=by
 have e1:(w.alloc (.cells c t)).heap.size=w.heap.size+1:=by show (w.heap.push _).size=_;rw [Rg]
 refine ⟨?_,?_,by show ((w.alloc (.cells c t)).heap.push _).size=_;rw [Rg,e1]⟩
 ·rw [(Z' (w.alloc (.cells c t)) _).block _ (by rw [e1];omega)]
  exact Z5 w _
 ·have h:=Z5 (w.alloc (.cells c t)) (.cells d s)
  rw [e1] at h
  exact h
def RH (k:Int) (p:J2) (d:AJ) (cv ev pv iv:Value):List Value:= .int .i64 k :: (Uz p d cv ev pv++[iv])
def A0 (w:World) (v:Value):Ev→Prop
 | .none=>v = .agg (RH 0 Xp Ue (.slice none 0 0) (.slice none 0 0) (.slice none 0 0) (.slice none 0 0)).toArray
 | .Ye p d=>∃ cv ev pv,v = .agg (RH 1 p d cv ev pv (.slice none 0 0)).toArray∧Vk w p cv ev pv
 | .X6 l=>∃ iv,v = .agg (RH 2 Xp Ue (.slice none 0 0) (.slice none 0 0) (.slice none 0 0) iv).toArray∧YV w iv l
theorem Cg {b:List UInt8} (h1:¬512<b.length) (h2:¬b.length<2) (h3:¬(192≤at8 b 1∧at8 b 1≤223)):X0 b=if (Um b).2≠0 then (.none,(Um b).2) else (.Ye (Um b).1.1 (Um b).1.2,0):=by
 unfold X0 Um
 rw [Z6 h1,Z6 h2,Z6 h3]
 by_cases q1:(YY b).2≠0
 ·rw [ZX q1,ZX q1,ZX q1]
 ·rw [Z6 q1,Z6 q1]
  by_cases q2:(YN (YY b).1.Zp).2≠0
  ·rw [ZX q2,ZX q2,ZX q2]
  ·rw [Z6 q2,Z6 q2,Z6 (fun h=>h rfl)]
theorem YV.setRow {w:World} {v:Value} {l:List R6} (h:YV w v l) {g:Nat} {c:Array Value} {f:Nat × Nat} (hg:w.heap[g]?=some (.cells c 84 f)) (cs:Array Value):YV (w.setRow g cs) v l:=by
 obtain ⟨L,h1,h2,h3⟩:=h
 exact ⟨L,h1,Row.setRow h2 hg Zd _,fun x hx=>⟨Row.setRow (h3 x hx).b hg Zd _,Row.setRow (h3 x hx).g hg Zd _,Row.setRow (h3 x hx).p hg Zd _⟩⟩
theorem FX (v:Value) (b:List UInt8) (w:World) (hv:Yn w v b) :
  Calls Tryz.prog 41 #[v] w fun e w'=>(∃ a,e = .returned (.tuple #[a,.int .i64 (X0 b).2])∧A0 w' a (X0 b).1)∧Below w w w':=by
 have HV:Hid (∀ w',Below w w w'→Yn w' v b):=fun w' h=>hv.below h
 have HB:Hid (Below w w (w.alloc (.cells (Qh 0 false 0 0 0 0 none 0 0 false 0 none 0 0 none 0 0 0 0 false false 0 none 0 0) 84))):=Z' w _
 have y0:=Z5 w (.cells (Qh 0 false 0 0 0 0 none 0 0 false 0 none 0 0 none 0 0 0 0 false false 0 none 0 0) 84)
 have hlen:=hv.len
 by_cases h1:512<b.length
 ·have HX:Hid (X0 b=(.none,5)):=by show _=_;unfold X0;rw [ZX h1]
  obtain ⟨a,c,rfl,-⟩:=id hv
  clear hv HV
  generalize X0 b=X at *
  have l1:decide ((512:Int)<(b.length:Int))=true:=Ws Zo
  go_enter Tryz.func41,Tryz.ntmps41
  go_wp2_with (first|(with_reducible refine ZY 84 (.tmp 2) (.tmp 13) rfl ?_;refine Zs y0 ?_))
  refine VR (v:= .tuple (Qn (Qh 0 false 0 0 0 0 none 0 0 false 0 none 0 0 none 0 0 0 0 false false 0 none 0 0) 5)) ?_ rfl ?_
  ·exact Yt8
  exact ⟨⟨_,by rw [HX.o],by rw [HX.o];rfl⟩,Z0 HB.o (ZB _) _⟩
 have l1:decide ((512:Int)<(b.length:Int))=false:=WN Zo
 by_cases h2:b.length<2
 ·have HX:Hid (X0 b=(.none,2)):=by show _=_;unfold X0;rw [Z6 h1,ZX h2]
  obtain ⟨a,c,rfl,-⟩:=id hv
  clear hv HV
  generalize X0 b=X at *
  have l2:decide ((b.length:Int)<2)=true:=Ws Zo
  go_enter Tryz.func41,Tryz.ntmps41
  go_wp2_with (first|(with_reducible refine ZY 84 (.tmp 2) (.tmp 18) rfl ?_;refine Zs y0 ?_))
  refine VR (v:= .tuple (Qn (Qh 0 false 0 0 0 0 none 0 0 false 0 none 0 0 none 0 0 0 0 false false 0 none 0 0) 2)) ?_ rfl ?_
  ·exact Yt8
  exact ⟨⟨_,by rw [HX.o],by rw [HX.o];rfl⟩,Z0 HB.o (ZB _) _⟩
 have l2:decide ((b.length:Int)<2)=false:=WN Zo
 obtain ⟨g,off,c,rfl,TH,vF,XS⟩:=SC (HV.o _ HB.o) Zo
 have d1:=XS 1 Zo
 clear XS hv TH vF
 have eZ:(1:Int)<(b.length:Int):=by omega
 by_cases h3:192≤at8 b 1∧at8 b 1≤223
 ·have HX:Hid (X0 b=if (Yy b).2≠0 then (.none,(Yy b).2) else (.X6 (Yy b).1,0)):=by
   show _=_
   conv=>lhs;unfold X0
   rw [Z6 h1,Z6 h2,ZX h3]
  have HC:=Zh (GV _ b _ (HV.o _ HB.o))
  clear HV
  generalize X0 b=X at *
  generalize Yy b=Y at *
  obtain ⟨L,er⟩:=Y
  dsimp only at HC HX
  obtain ⟨Dk,Ay⟩:=h3
  generalize at8 b 1=kd at *
  have q1:decide ((192:Int)≤(kd:Int))=true:=Ws Zo
  have q2:decide ((kd:Int)≤223)=true:=Ws Zo
  go_enter Tryz.func41,Tryz.ntmps41
  go_upto_region 7 with (go_at_call 70;refine HC.o.mono ?_;rintro e w2 ⟨⟨iv,rfl,hit⟩,Y0⟩;obtain ⟨ia,ic,yV⟩:=YV.form hit;subst yV;have He:=Zh hit;have XA:=Zh Y0;clear hit Y0)
  clear HC
  replace y0:=(XA.o.block _ (ZQ y0)).trans y0
  have T_:Hid (Below w w w2):=HB.o.trans (XA.o.mono HB.o.size)
  by_cases SE:er=0
  ·subst SE
   rw [Z6 Zi] at HX
   go_wp2_with (first|(with_reducible refine ZY 84 (.tmp 2) (.tmp 39) rfl ?_;refine Zs y0 ?_))
   refine VR (v:= .tuple (Qn (Qh 2 false 0 0 0 0 none 0 0 false 0 none 0 0 none 0 0 0 0 false false 0 ia L.length ic) 0)) ?_ rfl ?_
   ·exact Vs (p:=2) (u:=3) Zr _ _ w.heap.size 84 (Qh 2 false 0 0 0 0 none 0 0 false 0 none 0 0 none 0 0 0 0 false false 0 ia L.length ic) (0,0) _ Zr (setRow_heap _ _ _ _ _ _ y0) Tryz.underlying84 rfl Zk
   exact ⟨⟨_,by rw [HX.o],by rw [HX.o];exact ⟨_,rfl,He.o.setRow y0 _⟩⟩,Z0 T_.o (ZB _) _⟩
  ·have bl:(er != 0)=true:=by rw [TF];exact SE
   rw [ZX SE] at HX
   go_wp2_with (first|(with_reducible refine ZY 84 (.tmp 2) (.tmp 36) rfl ?_;refine Zs y0 ?_))
   refine VR (v:= .tuple (Qn (Qh 0 false 0 0 0 0 none 0 0 false 0 none 0 0 none 0 0 0 0 false false 0 none 0 0) er)) ?_ rfl ?_
   ·exact Yt8
   exact ⟨⟨_,by rw [HX.o],by rw [HX.o];rfl⟩,Z0 T_.o (ZB _) _⟩
 have HX:Hid (X0 b=if (Um b).2≠0 then (.none,(Um b).2) else (.Ye (Um b).1.1 (Um b).1.2,0)):=Cg h1 h2 h3
 have HC:=Zh (zC _ b _ (HV.o _ HB.o))
 clear HV
 generalize X0 b=X at *
 generalize Um b=Y at *
 obtain ⟨⟨P,d⟩,er⟩:=Y
 dsimp only at HC HX
 have hk:at8 b 1<192∨223<at8 b 1:=by omega
 clear h3
 generalize at8 b 1=kd at *
 go_enter Tryz.func41,Tryz.ntmps41
 rcases hk with hk|hk
 case' inl=>have q1:decide ((192:Int)≤(kd:Int))=false:=WN Zo
 case' inr=>have q1:decide ((192:Int)≤(kd:Int))=true:=Ws Zo
 case' inr=>have q2:decide ((kd:Int)≤223)=false:=WN Zo
 all_goals
  go_upto_region 11 with (first|(go_at_call 71;refine HC.o.mono ?_;rintro e w2 ⟨⟨a0,rfl,⟨cv,ev,pv,lL,q1,q2,q3⟩⟩,Y0⟩;obtain ⟨ca,cc,Di,-⟩:=id q1;obtain ⟨ea,ec,Ed,-⟩:=id q2;obtain ⟨pa,pc,NR,-⟩:=id q3;subst Di;subst Ed;subst NR;dsimp only [IB] at lL;subst lL;dsimp only [rA];have HR:Hid (Vk w2 P (.slice ca P.Sa.length cc) (.slice ea P.ext.length ec) (.slice pa P.Zp.length pc)):=⟨q1,q2,q3⟩;have XA:=Zh Y0;clear q1 q2 q3 Y0;obtain ⟨n0,n1,n2⟩:=Wm w2 (Qb false 0 0 0 0 none 0 0 false 0 none 0 0 none 0 0 0) (Qd 0 false false 0) 79 81)|(with_reducible refine ZY 79 (.tmp 6) (.tmp 43) rfl ?_;refine Zs n0 ?_)|(with_reducible refine ZY 81 (.tmp 7) (.tmp 44) rfl ?_;refine Zs ((setRow_other _ _ _ _ Zo).trans n1) ?_))
  clear HC
  have y_:w.heap.size<w2.heap.size:=Px (ZQ y0) XA.o.size
  have T_:Hid (Below w w w2):=HB.o.trans (XA.o.mono HB.o.size)
  have Ur:Hid (Below w2 w2 ((((w2.alloc (.cells (Qb false 0 0 0 0 none 0 0 false 0 none 0 0 none 0 0 0) 79)).alloc (.cells (Qd 0 false false 0) 81)).setRow w2.heap.size (Jm P ca cc ea ec pa pc)).setRow (w2.heap.size+1) (Jk d))):=Z0 (Z0 (ZA (Z' w2 _) (ZB _) _) (ZB _) _) (JK _) _
  replace y0:=(Ur.o.block _ y_).trans ((XA.o.block _ (ZQ y0)).trans y0)
  have QI:Hid (Below w w ((((w2.alloc (.cells (Qb false 0 0 0 0 none 0 0 false 0 none 0 0 none 0 0 0) 79)).alloc (.cells (Qd 0 false false 0) 81)).setRow w2.heap.size (Jm P ca cc ea ec pa pc)).setRow (w2.heap.size+1) (Jk d))):=T_.o.trans (Ur.o.mono T_.o.size)
  have y5:((((w2.alloc (.cells (Qb false 0 0 0 0 none 0 0 false 0 none 0 0 none 0 0 0) 79)).alloc (.cells (Qd 0 false false 0) 81)).setRow w2.heap.size (Jm P ca cc ea ec pa pc)).setRow (w2.heap.size+1) (Jk d)).heap[w2.heap.size]?=some (.cells (Jm P ca cc ea ec pa pc) 79 (0,0)):=(setRow_other _ _ _ _ Zo).trans (setRow_heap _ _ _ _ _ _ n0)
  have y6:((((w2.alloc (.cells (Qb false 0 0 0 0 none 0 0 false 0 none 0 0 none 0 0 0) 79)).alloc (.cells (Qd 0 false false 0) 81)).setRow w2.heap.size (Jm P ca cc ea ec pa pc)).setRow (w2.heap.size+1) (Jk d)).heap[w2.heap.size+1]?=some (.cells (Jk d) 81 (0,0)):=setRow_heap _ _ _ _ _ _ ((setRow_other _ _ _ _ Zo).trans n1)
  have Nz:=Zh (HR.o.below Ur.o)
  by_cases SE:er=0
  ·subst SE
   rw [Z6 Zi] at HX
   have HRZ:=Vk.setRow Nz.o y0 Zd Zd (Jl 1 P ca cc ea ec pa pc d none 0 0)
   go_wp2_with (first|(with_reducible refine Yp 79 (.tmp 6) rfl ?_;refine Zl y5 Tryz.underlying79 ?_)|(with_reducible refine Yp 81 (.tmp 7) rfl ?_;refine Zl y6 Tryz.underlying81 ?_)|(with_reducible refine ZY 84 (.tmp 2) (.tmp 52) rfl ?_;refine Zs y0 ?_))
   refine VR (v:= .tuple (Qn (Jl 1 P ca cc ea ec pa pc d none 0 0) 0)) ?_ rfl ?_
   ·exact Vs (p:=2) (u:=3) Zr _ _ w.heap.size 84 (Jl 1 P ca cc ea ec pa pc d none 0 0) (0,0) _ Zr (setRow_heap _ _ _ _ _ _ y0) Tryz.underlying84 rfl Zk
   exact ⟨⟨_,by rw [HX.o],by rw [HX.o];exact ⟨_,_,_,rfl,HRZ⟩⟩,Z0 QI.o (ZB _) _⟩
  ·have bl:(er != 0)=true:=by rw [TF];exact SE
   rw [ZX SE] at HX
   go_wp2_with (first|(with_reducible refine ZY 84 (.tmp 2) (.tmp 48) rfl ?_;refine Zs y0 ?_))
   refine VR (v:= .tuple (Qn (Qh 0 false 0 0 0 0 none 0 0 false 0 none 0 0 none 0 0 0 0 false false 0 none 0 0) er)) ?_ rfl ?_
   ·exact Vs (p:=2) (u:=3) Zr _ _ w.heap.size 84 (Qh 0 false 0 0 0 0 none 0 0 false 0 none 0 0 none 0 0 0 0 false false 0 none 0 0) (0,0) _ Zr (setRow_heap _ _ _ _ _ _ y0) Tryz.underlying84 rfl Zk
   exact ⟨⟨_,by rw [HX.o],by rw [HX.o];rfl⟩,Z0 QI.o (ZB _) _⟩
open Go.Proofs.Rm (ZT ZU)
structure Ao where
 e:Ev
 cv:Value
 ev:Value
 pv:Value
 iv:Value
def XD (x:Ao):List Value:=RH x.e.kd x.e.pk x.e.ds x.cv x.ev x.pv x.iv
structure JF (w:World) (x:Ao):Prop where
 p:Vk w x.e.pk x.cv x.ev x.pv
 i:YV w x.iv x.e.il
theorem A0.form {w:World} {v:Value} {e:Ev} (h:A0 w v e):∃ cv ev pv iv,v = .agg (XD ⟨e,cv,ev,pv,iv⟩).toArray∧JF w ⟨e,cv,ev,pv,iv⟩:=by
 cases e with
 | none=>exact ⟨_,_,_,_,h,Vk.nil w,YV.nil w⟩
 | Ye p d=>obtain ⟨cv,ev,pv,h1,h2⟩:=h;exact ⟨_,_,_,_,h1,h2,YV.nil w⟩
 | X6 l=>obtain ⟨iv,h1,h2⟩:=h;exact ⟨_,_,_,_,h1,Vk.nil w,h2⟩
theorem rC:Elem Tryz.prog 38 84 17 168:=⟨Tryz.underlying38,⟨.agg (Qh 0 false 0 0 0 0 none 0 0 false 0 none 0 0 none 0 0 0 0 false false 0 none 0 0),by kernel_rfl,rfl⟩,by decide⟩
def N6:List TypeId:=[44,35,84,59,66,5,173,228,226]
def Off (ts:List TypeId) (w:World) (S:Nat→Prop):Prop:=∀ e∈ts,∀ j c fr,S j→w.heap[j]?≠some (.cells c e fr)
theorem Sh {ts:List TypeId} {w:World} {B:Nat} {e:TypeId} {s:Nat} {v:Value} {n:Nat} {xs:List Value} (h:w.ownsRow B e s v n xs) (Xh:e ∉ ts):Off ts w (fun j=>v.ownBlock=some j):=fun e2 he=>X4 h (fun h=>Xh (h▸he))
theorem Wl {ts:List TypeId} {w:World} {k:Nat} {cs:Array Value} {e:TypeId} {f:Nat × Nat} (h:w.heap[k]?=some (.cells cs e f)) (Xh:e ∉ ts):Off ts w (· = k):=by
 intro e2 he j c fr hj hc
 rw [hj,h] at hc
 injection hc with hc
 injection hc with _ hc
 exact Xh (hc▸he)
theorem Ek {ts:List TypeId} {w:World} {S T:Nat→Prop} (h1:Off ts w S) (h2:Off ts w T):Off ts w (fun j=>S j∨T j):=fun e he j c fr hj=>hj.elim (fun h=>h1 e he j c fr h) (fun h=>h2 e he j c fr h)
theorem JF.below {w w':World} {x:Ao} (h:JF w x) (hb:Below w w w'):JF w' x:=⟨h.p.below hb,h.i.below hb⟩
theorem JF.eV {w w':World} {x:Ao} {S:Nat→Prop} (h:JF w x) (hf:Fr w S w w') (hS:Off [66,5,173,228,226] w S):JF w' x:=by
 refine ⟨h.p.lF hf (hS _ Zi) (hS _ Zi),?_⟩
 obtain ⟨L,h1,h2,h3⟩:=h.i
 exact ⟨L,h1,Row.fr h2 hf (ZB _) (hS _ Zi),fun y hy=>(h3 y hy).lF hf (hS _ Zi) (hS _ Zi) (hS _ Zi)⟩
theorem Vg {w w':World} {b:Nat} {T:ZU} {S:Nat→Prop} (h:ZT w b T) (hf:Fr w S w w') (hS:Off [91,103,108,105,66] w S):ZT w' b T:=by
 have hl:=h.lt
 obtain ⟨pv,sv,uv,hc,ht⟩:=h.Wh
 exact ⟨pv,sv,uv,by rw [hf.block b hl (fun hs=>hS _ Zi _ _ _ hs hc)];exact hc,ht.fr hf (ZB _) (hS _ Zi) (hS _ Zi) (hS _ Zi) (hS _ Zi)⟩
theorem U_ {w w':World} {B:Nat} {e:TypeId} {s:Nat} {v:Value} {n:Nat} {xs:List Value} {S:Nat→Prop} {ts:List TypeId} (h:w.ownsRow B e s v n xs) (hf:Fr w S w w') (hS:Off ts w S) (he:e∈ts):w'.ownsRow B e s v n xs:=
 Pp h fun j hj=>by
  obtain ⟨cur,hc⟩:=L8 h j hj
  exact hf.block j (ZQ hc) (fun hs=>hS _ he _ _ _ hs hc)
structure Xj (B:Nat) (w:World) (k:Nat) (cs:Array Value) (av:Value) (A:List Gg) (ev:Value) (E:List Ao) (lv:Value) (LS:List XJ):Prop where
 Y8:w.heap[k]?=some (.cells cs 44 (0,0))
 WH:w.ownsRow B 35 4 av A.length (A.flatMap QS)
 Av:w.ownsRow B 84 17 ev E.length (E.flatMap XD)
 each:∀ x∈E,JF w x
 AE:w.ownsRow B 59 4 lv LS.length (LS.flatMap Yi)
section
variable {B:Nat} {w w':World} {k:Nat} {cs:Array Value} {av:Value} {A:List Gg} {ev:Value} {E:List Ao} {lv:Value} {LS:List XJ}
theorem Xj.below (h:Xj B w k cs av A ev E lv LS) (hb:Below w w w'):Xj B w' k cs av A ev E lv LS:=
 ⟨(hb.block _ (ZQ h.Y8)).trans h.Y8,X9 h.WH hb,X9 h.Av hb,fun x hx=>(h.each x hx).below hb,X9 h.AE hb⟩
theorem Xj.frS (h:Xj B w k cs av A ev E lv LS) {S:Nat→Prop} (hf:Fr w S w w') (hS:Off (N6.drop 1) w S) {cs':Array Value} (hk:w'.heap[k]?=some (.cells cs' 44 (0,0))):Xj B w' k cs' av A ev E lv LS:=
 ⟨hk,U_ h.WH hf hS Zd,U_ h.Av hf hS Zd,fun x hx=>(h.each x hx).eV hf (fun e he=>hS e (by revert e;decide)),U_ h.AE hf hS Zd⟩
theorem Xj.tN (h:Xj B w k cs av A ev E lv LS) (o:Nat) (u:Value):Xj B (w.setCell ⟨k,o,none⟩ u) k (cs.setIfInBounds o u) av A ev E lv LS:=
 h.frS (S:=(· = k)) ((Fr.refl _ _ _).setAt _ _) (Wl h.Y8 Zd) (WA h.Y8 o u)
theorem Xj.rJ (h:Xj B w k cs av A ev E lv LS) (hg:w.grownBy w' lv.ownBlock) {j0:Value} {qH:List XJ} (ho:w'.ownsRow B 59 4 j0 qH.length (qH.flatMap Yi)):Xj B w' k cs av A ev E j0 qH:=by
 have o:=Sh (ts:=N6.erase 59) h.AE Zd
 exact ⟨(hg.block _ (ZQ h.Y8) (fun e=>o _ Zd _ _ _ e.symm h.Y8)).trans h.Y8,U_ h.WH (WV hg) o Zd,U_ h.Av (WV hg) o Zd,fun x hx=>(h.each x hx).eV (WV hg) (fun e he=>o e (by revert e;decide)),ho⟩
theorem Xj.rH (h:Xj B w k cs av A ev E lv LS) (hg:w.grownBy w' av.ownBlock) {av':Value} {A':List Gg} (ho:w'.ownsRow B 35 4 av' A'.length (A'.flatMap QS)):Xj B w' k cs av' A' ev E lv LS:=by
 have o:=Sh (ts:=N6.erase 35) h.WH Zd
 exact ⟨(hg.block _ (ZQ h.Y8) (fun e=>o _ Zd _ _ _ e.symm h.Y8)).trans h.Y8,ho,U_ h.Av (WV hg) o Zd,fun x hx=>(h.each x hx).eV (WV hg) (fun e he=>o e (by revert e;decide)),U_ h.AE (WV hg) o Zd⟩
theorem Xj.rI (h:Xj B w k cs av A ev E lv LS) (hg:w.grownBy w' ev.ownBlock) {ev':Value} {x:Ao} (hx:JF w x) (ho:w'.ownsRow B 84 17 ev' (E++[x]).length ((E++[x]).flatMap XD)):Xj B w' k cs av A ev' (E++[x]) lv LS:=by
 have o:=Sh (ts:=N6.erase 84) h.Av Zd
 exact ⟨(hg.block _ (ZQ h.Y8) (fun e=>o _ Zd _ _ _ e.symm h.Y8)).trans h.Y8,U_ h.WH (WV hg) o Zd,ho,fun y hy=>by
  rcases De.1 hy with hy|hy
  ·exact (h.each y hy).eV (WV hg) (fun e he=>o e (by revert e;decide))
  ·rw [I9.1 hy];exact hx.eV (WV hg) (fun e he=>o e (by revert e;decide)),U_ h.AE (WV hg) o Zd⟩
theorem Xj.j3 (h:Xj B w k cs av A ev E lv LS) {S:Nat→Prop} (hf:Fr w S w w') (hS:Off (N6.erase 59) w S) {qH:List XJ} (ho:w'.ownsRow B 59 4 lv qH.length (qH.flatMap Yi)):Xj B w' k cs av A ev E lv qH:=
 ⟨(hf.block _ (ZQ h.Y8) (fun hs=>hS _ Zd _ _ _ hs h.Y8)).trans h.Y8,U_ h.WH hf hS Zd,U_ h.Av hf hS Zd,fun x hx=>(h.each x hx).eV hf (fun e he=>hS e (by revert e;decide)),ho⟩
end
end Go.Proofs.By
namespace Go.Proofs.By
open Go.RowKit Go.Proofs.Heap Go.Proofs
open Go.Proofs.Rm (ZU Xi Inv WZ Room ZT NW RS Xg FW Y7 Zb)
theorem FY {w:World} {b:Nat} {T:ZU} (h:ZT w b T):N7 w (· = b):=by
 obtain ⟨_,_,_,hc,_⟩:=h.Wh
 intro k hk
 subst hk
 exact ⟨_,_,_,hc,by decide,by decide,by decide,by decide,by decide,by decide,by decide⟩
theorem CV (b:Nat) (T0:ZU) (R0:Room) (peer:Int) (v:Value) (l:List R6) (w:World) (hR:ZT w b T0) (y_:Xi T0 R0) (hI:Inv R0) (hS:WZ R0) (hv:YV w v l) (VU:∀ i∈l,TP i) (hl:l.length≤8) :
  Calls Tryz.prog 73 #[.pointer (some ⟨b,0,none⟩),.int .i64 peer,v] w fun e w'=>e = .returned (.int .i64 (ZG peer l R0).2)∧(∃ T',ZT w' b T'∧Xi T' (ZG peer l R0).1.2)∧Fr w (· = b) w w':=by
 obtain ⟨L,hlL,OQ⟩:=hv
 obtain ⟨va,vc,rfl⟩:=Row.form OQ.row
 have ko:=Zh (FY hR)
 have Hf:=Zh OQ
 have HR0:=Zh hR
 have EY:=Zh y_
 have OB:Hid (∀ x∈L,TP x.i):=fun x hx=>VU _ (by rw [hlL];exact List.mem_map_of_mem hx)
 have hLl:L.length≤8:=by have:=congrArg List.length hlL;rw [UM] at this;omega
 have ku:Hid (∀ j,Inv (ZG peer ((L.take j).map (·.i)) R0).1.2∧WZ (ZG peer ((L.take j).map (·.i)) R0).1.2∧0≤(ZG peer ((L.take j).map (·.i)) R0).2∧(ZG peer ((L.take j).map (·.i)) R0).2≤8000):=fun j=>by
  have h:=Rz peer ((L.take j).map (·.i)) R0 hI hS (fun i hi=>by
   obtain ⟨x,hx,rfl⟩:=yG.1 hi
   exact OB.o x (List.mem_of_mem_take hx))
  refine ⟨h.1,h.2.1,h.2.2.2.1,Int.le_trans h.2.2.2.2 ?_⟩
  have:((L.take j).map (·.i)).length≤8:=by rw [UM,TU];omega
  omega
 have HE:Hid (ZG peer l R0=ZG peer ((L.take L.length).map (·.i)) R0):=by show _=_;rw [qX,←hlL]
 generalize ZG peer l R0=X at *
 have HTY:Hid (∀ k c fr,k=b→w.heap[k]?≠some (.cells c 66 fr)):=ko.o.ne Zi
 clear hR y_ hI hS VU hlL hl OQ
 go_enter Tryz.func73,Tryz.ntmps73
 go_wp2_with fail
 go_loopw [7,22] (fun s7 s22 w'=>∃ (j:Nat) (T:ZU),j≤L.length∧s22 = .int .i64 (j:Int)∧s7 = .int .i64 (ZG peer ((L.take j).map (·.i)) R0).2∧Fr w (· = b) w w'∧ZT w' b T∧Xi T (ZG peer ((L.take j).map (·.i)) R0).1.2) (fun _ s22 _=>L.length-(intOf s22).toNat)
 case atStart=>exact ⟨0,T0,Zo,rfl,rfl,Fr.refl _ _ _,HR0.o,EY.o⟩
 case round=>
  obtain ⟨j,T,hj,rfl,rfl,Xm,VE,GL⟩:=hrel
  have U5:=Zh Xm
  clear HR0 EY
  by_cases Oh:j<L.length
  ·have Z7:=M_.fr Hf.o Xm ko.o
   obtain ⟨g',off',e1,UO⟩:=EA Y6 10 (fun _=>rfl) Z7.row Zo
   cases e1
   have hx:L[j]?=some L[j]:=VQ Oh
   have UO:=UO j _ hx
   have Nh:=Z7.each L[j] (Pw Oh)
   have VU:=OB.o L[j] (Pw Oh)
   have Lj:Hid (ZG peer ((L.take (j+1)).map (·.i)) R0=(((ZG peer ((L.take j).map (·.i)) R0).1.1++(Yr (ZG peer ((L.take j).map (·.i)) R0).1.2 peer L[j].i).1.1,(Yr (ZG peer ((L.take j).map (·.i)) R0).1.2 peer L[j].i).1.2),(ZG peer ((L.take j).map (·.i)) R0).2+(Yr (ZG peer ((L.take j).map (·.i)) R0).1.2 peer L[j].i).2)):=by
    show _=_
    rw [Pr hx,ND]
    exact Pe peer L[j].i _ R0
   have yV:=ku.o j
   clear Z7 hx
   generalize L[j]=x at *
   generalize ZG peer ((L.take j).map (·.i)) R0=G at *
   obtain ⟨⟨G1,R⟩,gu⟩:=G
   obtain ⟨i,bv,gv,pv⟩:=x
   obtain ⟨ba,bc,rW⟩:=Row.form Nh.b
   obtain ⟨ga,gc,yT⟩:=Row.form Nh.g
   obtain ⟨pa,pc,NR⟩:=Row.form Nh.p
   have pO:=Nh.g
   clear Nh
   obtain ⟨kd,ss,nt,tm,pk,oc,bs,gn,md,ps⟩:=i
   have vE:=VU.m0
   have Az:=VU.m1
   have Fq:=VU.g
   clear VU
   dsimp only at rW yT NR pO vE Az Fq Lj yV GL ⊢
   subst rW;subst yT;subst NR
   obtain ⟨hri,U4,hg0,hg8⟩:=yV
   have xN:wr.rangeAt g' (off'+j*10) (Qc kd ss nt tm pk oc ba bs.length bc ga gn.length gc md pa ps.length pc):=fun m v hm=>(UO m (by have h:=(List.getElem?_eq_some_iff.1 hm).1;simpa using h)).trans hm
   have fk:(j:Int)<(L.length:Int):=Gs.2 Oh
   have hz:=Z5 wr (.cells (Qc 0 0 0 0 0 0 none 0 0 none 0 0 0 none 0 0) 173)
   have BC:=setRow_heap _ _ _ (Qc kd ss nt tm pk oc ba bs.length bc ga gn.length gc md pa ps.length pc) _ _ hz
   have QI:Hid (Below wr wr ((wr.alloc (.cells (Qc 0 0 0 0 0 0 none 0 0 none 0 0 0 none 0 0) 173)).setRow wr.heap.size (Qc kd ss nt tm pk oc ba bs.length bc ga gn.length gc md pa ps.length pc))):=Z0 (Z' wr _) (ZB _) _
   have HGR:=Zh (Row.below pO QI.o)
   have VW:=Zh (VE.below QI.o)
   have JV:Hid (Fr w (· = b) w ((wr.alloc (.cells (Qc 0 0 0 0 0 0 none 0 0 none 0 0 0 none 0 0) 173)).setRow wr.heap.size (Qc kd ss nt tm pk oc ba bs.length bc ga gn.length gc md pa ps.length pc))):=Xm.trans (Fr.Z9 _ (QI.o.mono Xm.size))
   have OJ:=Zh GL
   have HRI:=Zh hri
   have ME:=Zh U4
   clear UO pO VE hri Xm U5 QI U4
   go_upto_region 5 with (first|(with_reducible refine Yp 173 (.tmp 24) rfl ?_;refine Zm xN Tryz.underlying173 ?_)|(with_reducible refine ZY 173 (.tmp 9) (.tmp 25) rfl ?_;refine Zs hz ?_))
   clear hz xN
   generalize ((wr.alloc (.cells (Qc 0 0 0 0 0 0 none 0 0 none 0 0 0 none 0 0) 173)).setRow wr.heap.size (Qc kd ss nt tm pk oc ba bs.length bc ga gn.length gc md pa ps.length pc))=w5 at *
   have y0:w5.cell? ⟨wr,0,none⟩=some (.int .i64 kd):=Zc BC 0 rfl
   have y1:w5.cell? ⟨wr,1,none⟩=some (.int .u32 ss):=Zc BC 1 rfl
   have y7:w5.cell? ⟨wr,7,none⟩=some (.slice ga gn.length gc):=Zc BC 7 rfl
   have y8:w5.cell? ⟨wr,8,none⟩=some (.int .u32 md):=Zc BC 8 rfl
   clear BC
   generalize wr.heap.size=kb at *
   have AP:Hid (Yr R peer ⟨kd,ss,nt,tm,pk,oc,bs,gn,md,ps⟩=if kd=200 then (([],R),if owned R peer ss then 0 else 1) else if kd=205∨kd=206 then (([],R),if Ve R peer md then 0 else 1) else if kd=203 then Zv peer gn R else (([],R),0)):=rfl
   generalize Yr R peer ⟨kd,ss,nt,tm,pk,oc,bs,gn,md,ps⟩=Y at *
   generalize ps.length=pl at *
   generalize bs.length=bl at *
   by_cases MX:kd=200
   ·subst MX
    have mZ:Hid (Y=(([],R),if owned R peer ss then 0 else 1)):=by show _=_;rw [AP.o];simp
    have M8:=Zh (FZ GL HRI.o peer ss)
    have CO:=Zh (NW b T ss w5 VW.o)
    clear AP GL
    generalize owned R peer ss=ow at *
    generalize T.of ss=O at *
    obtain ⟨O1,O2,O3⟩:=O
    dsimp only at CO M8
    have CW:=Zh (fun (w':World) (h:Below w5 w5 w')=>RS b T O1 w' (VW.o.below h))
    generalize T.owner O1=q at *
    have SK:(O3=false∨O3=true∧q≠peer)∨(O3=true∧peer=q):=by cases O3 <;> by_cases hq:q=peer <;> simp [hq,eq_comm]
    rcases SK with SK|⟨rfl,rfl⟩
    ·have Fv:ow=false:=by
      cases ow with
      | false=>rfl
      | true=>have:=M8.o.2 rfl;rcases SK with h|⟨_,h⟩;(rw [h] at this;cases this.1);exact absurd this.2 h
     subst Fv
     have Mw:Hid (Y=(([],R),1)):=mZ.o
     have HZ:Hid (ZG peer ((L.take (j+1)).map (·.i)) R0=((G1,R),gu+1)):=by show _=_;rw [Lj.o,Mw.o];simp
     clear mZ M8 Lj Mw
     rcases SK with rfl|⟨rfl,hq⟩
     case' inr=>have Zj:(q != peer)=true:=by rw [TF];exact hq
     all_goals
      go_wp2_with (first|(go_at_call 74;refine CO.o.mono ?_;rintro e w6 ⟨rfl,Fl⟩;have T9:=Zh Fl;clear Fl)|(go_at_call 75;refine (CW.o _ T9.o).mono ?_;rintro e w7 ⟨rfl,Fm⟩;replace T9:=Zh (T9.o.trans (Fm.mono T9.o.size));clear Fm))
      go_roundw
      case rel=>exact ⟨j+1,T,Zo,Zn,by rw [HZ.o],JV.o.trans (Fr.Z9 _ (T9.o.mono JV.o.size)),VW.o.below T9.o,by rw [HZ.o];exact OJ.o⟩
      case measure=>simp [intOf];omega
    ·have Fv:ow=true:=M8.o.1 ⟨rfl,rfl⟩
     subst Fv
     have Mw:Hid (Y=(([],R),0)):=mZ.o
     have HZ:Hid (ZG peer ((L.take (j+1)).map (·.i)) R0=((G1,R),gu)):=by show _=_;rw [Lj.o,Mw.o];simp
     have Zj:(peer != peer)=false:=by rw [bne_self_eq_false]
     clear mZ M8 Lj Mw
     go_wp2_with (first|(go_at_call 74;refine CO.o.mono ?_;rintro e w6 ⟨rfl,Fl⟩;have T9:=Zh Fl;clear Fl)|(go_at_call 75;refine (CW.o _ T9.o).mono ?_;rintro e w7 ⟨rfl,Fm⟩;replace T9:=Zh (T9.o.trans (Fm.mono T9.o.size));clear Fm))
     exact ay
   by_cases fE:kd=205∨kd=206
   ·have mZ:Hid (Y=(([],R),if Ve R peer md then 0 else 1)):=by show _=_;rw [AP.o,Z6 MX,ZX fE]
    have M8:=Zh (wu GL peer md)
    have CH:=Zh (zE md w5 vE Az)
    clear AP GL
    generalize Ve R peer md=ow at *
    generalize VL md=O at *
    obtain ⟨O1,O2,O3⟩:=O
    dsimp only at CH M8
    have CB:=Zh (Xg b T O1 O2 w5 VW.o)
    generalize T.Zx O1 O2=q at *
    have T9:=Zh (YG w5.heap.size w5)
    have SK:(O3=false∨O3=true∧O1≠peer∨O3=true∧peer=O1∧q<0)∨(O3=true∧peer=O1∧0≤q):=by
     have:=Int.lt_or_le q 0
     cases O3 <;> by_cases hq:O1=peer
     ·simp
     ·simp
     ·subst hq;simpa using this
     ·simp [hq]
    rcases SK with SK|⟨rfl,rfl,hq⟩
    ·have Fv:ow=false:=by
      cases ow with
      | false=>rfl
      | true=>have:=M8.o.2 rfl;rcases SK with h|⟨_,h⟩|⟨_,_,h⟩;(rw [h] at this;cases this.1);exact absurd this.2.1 h;exact absurd this.2.2 Zo
     subst Fv
     have Mw:Hid (Y=(([],R),1)):=mZ.o
     have HZ:Hid (ZG peer ((L.take (j+1)).map (·.i)) R0=((G1,R),gu+1)):=by show _=_;rw [Lj.o,Mw.o];simp
     clear mZ M8 Lj Mw
     rcases SK with rfl|⟨rfl,hq⟩|⟨rfl,rfl,hq⟩
     case' inr.inl=>have Zj:(O1 != peer)=true:=by rw [TF];exact hq
     case' inr.inr=>have Zj:(peer != peer)=false:=by rw [bne_self_eq_false]
     case' inr.inr=>have Y0:decide (q<0)=true:=Ws hq
     all_goals
      rcases fE with rfl|rfl
      all_goals
       go_wp2_with (first|(go_at_call 103;refine CH.o.mono ?_;rintro e w6 ⟨rfl,rfl⟩)|(go_at_call 51;refine CB.o.mono ?_;rintro e w7 ⟨rfl,Fm⟩;have T9:=Zh Fm;clear Fm))
       go_roundw
       case rel=>exact ⟨j+1,T,Zo,Zn,by rw [HZ.o],JV.o.trans (Fr.Z9 _ (T9.o.mono JV.o.size)),VW.o.below T9.o,by rw [HZ.o];exact OJ.o⟩
       case measure=>simp [intOf];omega
    ·have Fv:ow=true:=M8.o.1 ⟨rfl,rfl,hq⟩
     subst Fv
     have Mw:Hid (Y=(([],R),0)):=mZ.o
     have HZ:Hid (ZG peer ((L.take (j+1)).map (·.i)) R0=((G1,R),gu)):=by show _=_;rw [Lj.o,Mw.o];simp
     have Zj:(peer != peer)=false:=by rw [bne_self_eq_false]
     have Y0:decide (q<0)=false:=WN Zo
     clear mZ M8 Lj Mw
     rcases fE with rfl|rfl
     all_goals
      go_wp2_with (first|(go_at_call 103;refine CH.o.mono ?_;rintro e w6 ⟨rfl,rfl⟩)|(go_at_call 51;refine CB.o.mono ?_;rintro e w7 ⟨rfl,Fm⟩;have T9:=Zh Fm;clear Fm))
      go_roundw
      case rel=>exact ⟨j+1,T,Zo,Zn,by rw [HZ.o],JV.o.trans (Fr.Z9 _ (T9.o.mono JV.o.size)),VW.o.below T9.o,by rw [HZ.o];exact OJ.o⟩
      case measure=>simp [intOf];omega
   have e1:(kd == 200)=false:=by rw [WT];exact MX
   have e2:(kd == 205)=false:=by rw [WT];omega
   have e3:(kd == 206)=false:=by rw [WT];omega
   by_cases JP:kd=203
   rotate_left
   ·have Mw:Hid (Y=(([],R),0)):=by show _=_;rw [AP.o,Z6 MX,Z6 fE,Z6 JP]
    have e4:(kd == 203)=false:=by rw [WT];exact JP
    have T9:=Zh (YG w5.heap.size w5)
    have HZ:Hid (ZG peer ((L.take (j+1)).map (·.i)) R0=((G1,R),gu)):=by show _=_;rw [Lj.o,Mw.o];simp
    clear AP Lj Mw
    go_wp2_with fail
    exact ay
   subst JP
   have Mw:Hid (Y=Zv peer gn R):=by show _=_;rw [AP.o,Z6 MX,Z6 fE,ZX rfl]
   have HTY5:Hid (∀ k c fr,k=b→w5.heap[k]?≠some (.cells c 66 fr)):=(FY VW.o).ne Zi
   have HGV:Hid (∀ m,Inv (Zv peer (gn.take m) R).1.2∧0≤(Zv peer (gn.take m) R).2∧(Zv peer (gn.take m) R).2≤128):=fun m=>by
    have h:=Rt peer (gn.take m) R HRI.o ME.o
    rw [TU] at h
    exact ⟨h.1,h.2.2.2.1,by have:=h.2.2.2.2;omega⟩
   clear AP e1 e2 e3 MX fE GL HRI ME y1 y8
   go_wp2_with fail
   go_loopw [7,80] (fun s7 s80 w'=>∃ (m:Nat) (T2:ZU),m≤gn.length∧s80 = .int .i64 (m:Int)∧s7 = .int .i64 (gu+(Zv peer (gn.take m) R).2)∧Fr w5 (· = b) w5 w'∧ZT w' b T2∧Xi T2 (Zv peer (gn.take m) R).1.2) (fun _ s80 _=>gn.length-(intOf s80).toNat)
   case atStart=>exact ⟨0,T,Zo,rfl,by show _=Value.int .i64 (gu+0);rw [Int.add_zero],Fr.refl _ _ _,VW.o,OJ.o⟩
   case round=>
    obtain ⟨m,T2,hm,rfl,rfl,G9,PW,Bz⟩:=hrel
    have KB:=Zh G9
    have yT:=HGV.o m
    by_cases My:m<gn.length
    ·obtain ⟨g2,BU,cap2,e2,-,-,-,Mx⟩:=Rm.RQ (Row.fr HGR.o G9 (ZB _) HTY5.o) Zo
     cases e2
     have hc:=Mx m My
     have HT:=Zh (IW My)
     have fo:(m:Int)<(gn.length:Int):=Gs.2 My
     have oD:=yK
     clear Mx
     generalize gn.getD m 0=p at *
     have HS:=Zh (O_ peer p (gn.take m) R)
     have CG:=Zh (FW b T2 (Zv peer (gn.take m) R).1.2 peer p wr PW Bz yT.1)
     obtain ⟨-,jQ,dH⟩:=yT
     clear G9 PW Bz
     generalize Zv peer (gn.take m) R=Gm at *
     generalize Y7 Gm.1.2 peer p=Z at *
     obtain ⟨⟨Z1,Z2⟩,ze⟩:=Z
     obtain ⟨⟨Gm1,Gm2⟩,gmu⟩:=Gm
     dsimp only at CG HS jQ dH
     by_cases dM:ze=0
     case' pos=>have G_:(ze != 0)=false:=by rw [dM];rfl
     case' neg=>have G_:(ze != 0)=true:=by rw [TF];exact dM
     case' pos=>have uM:Hid (Zv peer (gn.take m++[p]) R=((Gm1++Z1,Z2),gmu)):=by show _=_;rw [HS.o];simp [Dg,dM]
     case' neg=>have uM:Hid (Zv peer (gn.take m++[p]) R=((Gm1++Z1,Z2),gmu+1)):=by show _=_;rw [HS.o];simp [Dg,dM]
     all_goals
      clear HS oD dM
      go_wp2_with (go_at_call 104;refine CG.o.mono ?_;rintro e w8 ⟨⟨tv,rfl,S0⟩,⟨T3,GJ,AA⟩,lS⟩;obtain ⟨ta,tc,oU,-⟩:=id S0;subst oU;have yx:=Zh GJ;have HS3:=Zh AA;have Dv:=Zh (KB.o.trans (lS.mono KB.o.size (fun _ _ h=>h)));clear S0 GJ AA lS)
      go_roundw
      case rel=>exact ⟨m+1,T3,Zo,Zn,by rw [HT.o,uM.o] <;> first|rfl|rw [Int.add_assoc],Dv.o,yx.o,by rw [HT.o,uM.o];exact HS3.o⟩
      case measure=>simp [intOf];omega
    ·have hT:gn.take m=gn:=I8 Zo
     rw [hT] at Bz ⊢
     have HS3:=Zh Bz
     have yx:=Zh PW
     have HZ:Hid (ZG peer ((L.take (j+1)).map (·.i)) R0=((G1++(Zv peer gn R).1.1,(Zv peer gn R).1.2),gu+(Zv peer gn R).2)):=by show _=_;rw [Lj.o,Mw.o]
     clear yT HGV G9 PW Bz Lj Mw
     generalize Zv peer gn R=Gm at *
     go_wp2_with fail
     go_roundw
     case rel=>exact ⟨j+1,T2,Zo,Zn,by rw [HZ.o],JV.o.trans (KB.o.mono JV.o.size (fun _ _ h=>h)),yx.o,by rw [HZ.o];exact HS3.o⟩
     case measure=>simp [intOf];omega
  ·have vB:j=L.length:=by omega
   subst vB
   rw [←HE.o] at GL ⊢
   have OJ:=Zh GL
   have VW:=Zh VE
   clear Xm VE GL ku HE OB Hf
   go_wp2_with fail
   go_ret
   exact ⟨rfl,⟨T,VW.o,OJ.o⟩,U5.o⟩
end Go.Proofs.By
