/- Part of a proof. -/
import Derived.Test.YtpdjhlcbcomdkaaGreatDoorR26
set_option linter.unusedVariables false
set_option linter.unusedSimpArgs false
set_option maxRecDepth 100000
set_option maxHeartbeats 16000000
open Go Go.Q Go.Qr
namespace Go.Proofs.By
open Go.RowKit Go.Proofs.Heap Go.Proofs
open Go.Proofs.Rm (below_drewN)
structure VB (w:World) (V k:Nat) (ov av mv lv:Value) (L:List V7) (x:Zu) (wv cv qv:Value):Prop where
 book:w.heap[k]?=some (.cells #[ov,av,mv,lv] 116 (0,0))
 ops:Xf w ov L
 XC:Row w 35 av L.length ((Xt L L.length).flatMap Vn)
 Ld:∃ M:List TP,Row w 97 mv M.length (M.flatMap Xo)∧(∀ y∈M,Vy w y.p y.cv y.ev y.pv)∧M.map (fun y=>(y.p,y.d))=Oy L L.length
 view:w.heap[V]?=some (.cells (Q6 (some ⟨k,0,none⟩) x.peer x.source x.MR x.fin wv cv qv) 164 (0,0))
structure fu (w:World) (wv cv qv:Value) (j:Nat) (s:VS):Prop where
 want:∃ g o n c,wv = .slice (some ⟨g,o,none⟩) n c∧j<n∧w.cell? ⟨g,o+j,none⟩=some (.int .i64 s.want)
 cur:∃ g o n c,cv = .slice (some ⟨g,o,none⟩) n c∧j<n∧w.cell? ⟨g,o+j,none⟩=some (.int .i64 s.cur)
 quiet:∃ g o n c,qv = .slice (some ⟨g,o,none⟩) n c∧j<n∧w.cell? ⟨g,o+j,none⟩=some (.bool s.quiet)
def WA (l:List Int):List Value:=l.map fun z=> .int .i64 z
def U3 (l:List Bool):List Value:=l.map fun z=> .bool z
structure OL (w:World) (wv cv qv:Value) (SS:List VS):Prop where
 want:Row w 3 wv SS.length (WA (SS.map VS.want))
 cur:Row w 3 cv SS.length (WA (SS.map VS.cur))
 quiet:Row w 4 qv SS.length (U3 (SS.map VS.quiet))
theorem Ha {w:World} {e:TypeId} {v:Value} {n:Nat} {xs:List Value} (h:Row w e v n xs) {j:Nat} {u:Value} (hu:xs[j]?=some u) (hj:j<n):∃ g o n' c,v = .slice (some ⟨g,o,none⟩) n' c∧j<n'∧w.cell? ⟨g,o+j,none⟩=some u:=by
 have hl:j<xs.length:=(List.getElem?_eq_some_iff.1 hu).1;obtain ⟨g,off,cap,h1,h2,h3,h4,h5⟩:=Row.open h Zo;exact ⟨g,off,n,cap,h1,hj,(h5 j hl).trans hu⟩
theorem OL.at {w:World} {wv cv qv:Value} {SS:List VS} (h:OL w wv cv qv SS) {j:Nat} {s:VS} (hs:SS[j]?=some s):fu w wv cv qv j s:=by
 have hl:j<SS.length:=(List.getElem?_eq_some_iff.1 hs).1;exact ⟨Ha h.want (by simp [WA,hs]) hl,Ha h.cur (by simp [WA,hs]) hl,Ha h.quiet (by simp [U3,hs]) hl⟩
section
variable {w w':World} {V k:Nat} {ov av mv lv:Value} {L:List V7} {x:Zu} {wv cv qv:Value}
theorem VB.below (h:VB w V k ov av mv lv L x wv cv qv) (hb:Below w w w'):VB w' V k ov av mv lv L x wv cv qv:=by
 obtain ⟨M,m1,m0,m2⟩:=h.Ld;exact ⟨(hb.block _ (ZW h.book)).trans h.book,h.ops.below hb,Row.below h.XC hb,⟨M,Row.below m1 hb,fun y hy=>(m0 y hy).below hb,m2⟩,(hb.block _ (ZW h.view)).trans h.view⟩
theorem OL.below {SS:List VS} (h:OL w wv cv qv SS) (hb:Below w w w'):OL w' wv cv qv SS:=⟨Row.below h.want hb,Row.below h.cur hb,Row.below h.quiet hb⟩
theorem Yp {g o:Nat} {u:Value} (h:w.cell? ⟨g,o,none⟩=some u) (hb:Below w w w'):w'.cell? ⟨g,o,none⟩=some u:=by
 have hg:g<w.heap.size:=by
  rcases Nat.lt_or_ge g w.heap.size with h1|h1
  ·exact h1
  ·simp only [World.cell?,E7 h1] at h;cases h
 exact (hb.cell (p:=⟨g,o,none⟩) hg).trans h
theorem fu.below {j:Nat} {s:VS} (h:fu w wv cv qv j s) (hb:Below w w w'):fu w' wv cv qv j s:=by
 obtain ⟨⟨g1,o1,n1,c1,a1,b1,d1⟩,⟨g2,o2,n2,c2,a2,b2,d2⟩,⟨g3,o3,n3,c3,a3,b3,d3⟩⟩:=h;exact ⟨⟨g1,o1,n1,c1,a1,b1,Yp d1 hb⟩,⟨g2,o2,n2,c2,a2,b2,Yp d2 hb⟩,⟨g3,o3,n3,c3,a3,b3,Yp d3 hb⟩⟩
theorem pJ (h:Xf w ov L) {j:Nat} (hj:j<L.length):∃ g o c nm a1 n1 c1 a2 n2 c2,ov = .slice (some ⟨g,o,none⟩) L.length c ∧
  w.rangeAt g (o+j*7) (Qa (opAt L j).kind (opAt L j).peer (opAt L j).source (opAt L j).ZH nm a1 n1 c1 a2 n2 c2):=by
 obtain ⟨va,vc,rfl,-,-⟩:=h.form;obtain ⟨g,o,cap,e1,-,-,-,VQ⟩:=Rm.Dk (fun y:V7=>Rm.Xi y.x) 7 (fun _=>rfl) Zo h.row Zo;cases e1;have hy:L[j]?=some L[j]:=Vb hj;have VQ:=VQ j _ hy;have e2:opAt L j=L[j].x.o:=by unfold opAt;rw [hy]
 rw [e2];exact ⟨g,o,_,_,_,_,_,_,_,_,rfl,fun m v hm=>(VQ m mP).trans hm⟩
theorem uo {n:Nat} (h:Row w 35 av n ((Xt L n).flatMap Vn)) {j:Nat} (hj:j<n):∃ g o c,av = .slice (some ⟨g,o,none⟩) n c ∧
  w.rangeAt g (o+j*4) (Qc (Z5 L j).XC.kind (Z5 L j).XC.source (Z5 L j).XC.N6 (Z5 L j).XC.err):=by
 obtain ⟨a,c,rfl⟩:=Row.form h;obtain ⟨g,o,e,h2⟩:=Su Vn 4 (fun _=>rfl) h (by rw [Ww];omega);cases e;have hx:(Xt L n)[j]?=some (Z5 L j).XC:=by unfold Xt;rw [List.getElem?_map,List.getElem?_range hj];rfl
 exact ⟨g,o,c,rfl,fun m v hm=>(h2 j _ hx m mP).trans hm⟩
theorem Kh (h:VB w V k ov av mv lv L x wv cv qv) {j:Nat} (hj:j<L.length):∃ g o c a1 n1 c1 a2 n2 c2 a3 n3 c3,mv = .slice (some ⟨g,o,none⟩) L.length c ∧
  w.rangeAt g (o+j*15) (V_ (Z5 L j).XW (Z5 L j).WJ (.slice a1 n1 c1) (.slice a2 n2 c2) (.slice a3 n3 c3)):=by
 obtain ⟨M,m1,m0,m2⟩:=h.Ld;have hl:M.length=L.length:=by have h1:=congrArg List.length m2;rwa [TB,GV] at h1
 rw [hl] at m1;obtain ⟨a,c,rfl⟩:=Row.form m1;obtain ⟨g,o,e,h2⟩:=Su Xo 15 (fun _=>rfl) m1 Zo;cases e;have hj':j<M.length:=by omega
 have hx:M[j]?=some M[j]:=Vb hj'
 have he:(M[j].p,M[j].d)=((Z5 L j).XW,(Z5 L j).WJ):=by
  have h3:=congrArg (fun l=>l[j]?) m2;try dsimp only at h3
  rw [List.getElem?_map,hx] at h3;unfold Oy at h3;rw [List.getElem?_map,List.getElem?_range hj] at h3;exact Option.some.inj h3
 injection he with e1 e2
 have VQ:=h2 j _ hx;have hp:=m0 M[j] (PA hj');generalize M[j]=y at *
 obtain ⟨p,d,cz,ev',pv'⟩:=y;obtain ⟨⟨a1,c1,q1⟩,⟨a2,c2,q2⟩,⟨a3,c3,q3⟩⟩:=hp.form;dsimp only at q1 q2 q3 e1 e2;subst q1;subst q2;subst q3;subst e1;subst e2;exact ⟨g,o,c,a1,_,c1,a2,_,c2,a3,_,c3,rfl,fun m v hm=>(VQ m (by have h:=(List.getElem?_eq_some_iff.1 hm).1;simpa [V_] using h)).trans hm⟩
end
theorem tD {w:World} {g o:Nat} {xs ys:List Value} (h:w.rangeAt g o xs) (i:Nat) (hy:∀ m v,ys[m]?=some v→xs[i+m]?=some v):w.rangeAt g (o+i) ys:=fun m v hm=>by rw [Nat.add_assoc];exact h (i+m) v (hy m v hm)
theorem OM (V:Nat) (p s b f:Int) (wv cv qv bv:Value) (w:World) (h:w.heap[V]?=some (.cells #[bv,.int .i64 p,.int .i64 s,.int .i64 b,.int .i64 f,wv,cv,qv] 164 (0,0))) (at':Int) :
  Calls Tryz.prog 115 (Qk (some ⟨V,0,none⟩) at') w fun e w'=>e = .returned (.bool (QH ⟨p,s,b,f⟩ at'))∧w=w':=by
 have c3:w.cell? ⟨V,3,none⟩=some (.int .i64 b):=Zc h 3 rfl;have c4:w.cell? ⟨V,4,none⟩=some (.int .i64 f):=Zc h 4 rfl;have HX:Hid (QH ⟨p,s,b,f⟩ at'=(decide (b<at') && decide (at'<f))):=rfl;generalize QH ⟨p,s,b,f⟩ at'=X at *
 clear h;by_cases h1:b<at'
 ·have d1:decide (b<at')=true:=Wi h1;go_enter Tryz.func115,Tryz.ntmps115;go_wp2_with fail
  go_ret;exact ⟨by rw [HX.o,d1];rfl,rfl⟩
 ·have d1:decide (b<at')=false:=WI h1;go_enter Tryz.func115,Tryz.ntmps115;go_wp2_with fail
  go_ret;exact ⟨by rw [HX.o,d1];rfl,rfl⟩
section
variable {w:World} {V k:Nat} {ov av mv lv:Value} {L:List V7} {x:Zu} {wv cv qv:Value}
theorem IX (h:VB w V k ov av mv lv L x wv cv qv) {j:Nat} (hj:j<L.length) :
  Calls Tryz.prog 88 (Qk (some ⟨V,0,none⟩) (j:Int)) w fun e w'=>e = .returned (.bool (Wa L x j))∧Below w w w':=by
 obtain ⟨g,o,c,rfl,M3⟩:=uo h.XC hj;have v0:w.cell? ⟨V,0,none⟩=some (.pointer (some ⟨k,0,none⟩)):=Zc h.view 0 rfl;have b1:w.cell? ⟨k,1,none⟩=some (.slice (some ⟨g,o,none⟩) L.length c):=Zc h.book 1 rfl;have hVl:=ZW h.view;have HV:=Zh h.view;have HX:Hid (Wa L x j=(QH x j && decide ((Z5 L j).XC.kind=1) && decide ((Z5 L j).XC.source=x.source))):=rfl;have zW:(j:Int)<(L.length:Int):=OP.2 hj;obtain ⟨xp,xs,xb,xf⟩:=x;generalize Wa L ⟨xp,xs,xb,xf⟩ j=X at *
 generalize (Z5 L j).XC=A at *
 obtain ⟨ak,as',ae,ar⟩:=A;dsimp only at HX M3 HV;clear h;have hz:=Z8 w (.cells (Qc 0 0 0 0) 35);have JF:=setRow_heap _ _ _ (Qc ak as' ae ar) _ _ hz;have HB:Hid (Below w w ((w.alloc (.cells (Qc 0 0 0 0) 35)).setRow w.heap.size (Qc ak as' ae ar))):=Z3 (Z' w _) (Zw _) _;go_enter Tryz.func88,Tryz.ntmps88;go_upto_region 2 with (first|(with_reducible refine Zj 35 (.tmp 14) rfl ?_;refine wpList_load_mid rfl 35 (.tmp 14) rfl g (o+j*4) rfl (Qc ak as' ae ar) _ M3 Tryz.underlying35 rfl ZB ?_)|(with_reducible refine ZU 35 (.tmp 5) (.tmp 15) rfl ?_;refine ZV rfl 35 (.tmp 5) (.tmp 15) rfl rfl w.heap.size (Qc ak as' ae ar) rfl rfl 35 (Qc 0 0 0 0) hz ZB ZB ZB ?_))
 clear hz M3 v0 b1;have HVV:=Zh ((HB.o.block V hVl).trans HV.o);generalize ((w.alloc (.cells (Qc 0 0 0 0) 35)).setRow w.heap.size (Qc ak as' ae ar))=w5 at *
 have y0:w5.cell? ⟨w,0,none⟩=some (.int .i64 ak):=Zc JF 0 rfl;have y1:w5.cell? ⟨w,1,none⟩=some (.int .i64 as'):=Zc JF 1 rfl;have z2:w5.cell? ⟨V,2,none⟩=some (.int .i64 xs):=Zc HVV.o 2 rfl;have CL:Hid (∀ n,Calls Tryz.prog 115 (Qk (some ⟨V,0,none⟩) (j:Int)) (w5.drewN n) fun e w'=>e = .returned (.bool (QH ⟨xp,xs,xb,xf⟩ (j:Int)))∧w'=w5.drewN n):=fun n=>(OM V xp xs xb xf wv cv qv _ (w5.drewN n) HVV.o (j:Int)).mono fun e w' ⟨a,b⟩=>⟨a,b.symm⟩
 generalize QH ⟨xp,xs,xb,xf⟩ (j:Int)=l at *
 clear JF;cases l with
 | false=>
  exact fP
 | true=>
  by_cases h1:ak=1
  ·subst h1;exact fP
  ·have e1:(ak == 1)=false:=by rw [WR];exact h1
   go_quiet ((go_at_call 115;exact Calls.quiet_of_same (CL.o _)))
   have X8:=Zh (below_drewN HB.o nq);clear CL;go_wp2_with fail
   go_ret;exact ⟨by rw [HX.o,WI h1];rfl,X8.o⟩
theorem Tz (h:VB w V k ov av mv lv L x wv cv qv) {j:Nat} (hj:j<L.length) {s:VS} (hs:fu w wv cv qv j s) :
  Calls Tryz.prog 89 (Qk (some ⟨V,0,none⟩) (j:Int)) w fun e w'=>e = .returned (.bool (VY s (Z5 L j).WJ))∧Below w w w':=by
 obtain ⟨g,o,c,a1,n1,c1,a2,n2,c2,a3,n3,c3,rfl,hr⟩:=Kh h hj
 have M3:w.rangeAt g (o+j*15+11) (Qd (Z5 L j).WJ.ZH (Z5 L j).WJ.key (Z5 L j).WJ.start (Z5 L j).WJ.frame):=tD hr 11 (fun m v hm=>by
  have h:=(List.getElem?_eq_some_iff.1 hm).1;have h:m<4:=by simpa using h
  rcases m with _|_|_|_|m
  all_goals first|exact hm|omega)
 obtain ⟨⟨g1,o1,m1,d1,rfl,l1,e1⟩,⟨g2,o2,m2,d2,rfl,l2,e2⟩,⟨g3,o3,m3,d3,rfl,l3,e3⟩⟩:=hs;have v0:w.cell? ⟨V,0,none⟩=some (.pointer (some ⟨k,0,none⟩)):=Zc h.view 0 rfl;have v5:w.cell? ⟨V,5,none⟩=some (.slice (some ⟨g1,o1,none⟩) m1 d1):=Zc h.view 5 rfl;have v6:w.cell? ⟨V,6,none⟩=some (.slice (some ⟨g2,o2,none⟩) m2 d2):=Zc h.view 6 rfl;have v7:w.cell? ⟨V,7,none⟩=some (.slice (some ⟨g3,o3,none⟩) m3 d3):=Zc h.view 7 rfl;have b2:w.cell? ⟨k,2,none⟩=some (.slice (some ⟨g,o,none⟩) L.length c):=Zc h.book 2 rfl;have HX:Hid (VY s (Z5 L j).WJ=(!s.quiet && (Z5 L j).WJ.key && (Z5 L j).WJ.start && decide ((Z5 L j).WJ.ZH=s.want) && !decide ((Z5 L j).WJ.ZH=s.cur))):=rfl;have zW:(j:Int)<(L.length:Int):=OP.2 hj;have i1:(j:Int)<(m1:Int):=OP.2 l1;have i2:(j:Int)<(m2:Int):=OP.2 l2;have i3:(j:Int)<(m3:Int):=OP.2 l3;clear h hr;generalize VY s (Z5 L j).WJ=X at *
 generalize (Z5 L j).WJ=D at *
 generalize s.quiet=q at *
 generalize s.want=wt at *
 generalize s.cur=cu at *
 obtain ⟨ly,ke,st,fm⟩:=D;dsimp only at HX M3;have hz:=Z8 w (.cells (Qd 0 false false 0) 81);have JF:=setRow_heap _ _ _ (Qd ly ke st fm) _ _ hz;have HB:Hid (Below w w ((w.alloc (.cells (Qd 0 false false 0) 81)).setRow w.heap.size (Qd ly ke st fm))):=Z3 (Z' w _) (Zw _) _;have KC:Hid (∀ (g o:Nat) (u:Value),w.cell? ⟨g,o,none⟩=some u→((w.alloc (.cells (Qd 0 false false 0) 81)).setRow w.heap.size (Qd ly ke st fm)).cell? ⟨g,o,none⟩=some u):=fun g o u hc=>Yp hc HB.o
 go_enter Tryz.func89,Tryz.ntmps89;go_upto_region 2 with (first|(with_reducible refine Zj 81 (.tmp 15) rfl ?_;refine wpList_load_mid rfl 81 (.tmp 15) rfl g (o+j*15+11) rfl (Qd ly ke st fm) _ M3 Tryz.underlying81 rfl ZB ?_)|(with_reducible refine ZU 81 (.tmp 5) (.tmp 16) rfl ?_;refine ZV rfl 81 (.tmp 5) (.tmp 16) rfl rfl w.heap.size (Qd ly ke st fm) rfl rfl 81 (Qd 0 false false 0) hz ZB ZB ZB ?_))
 clear hz M3 v0 b2;replace v5:=KC.o _ _ _ v5;replace v6:=KC.o _ _ _ v6;replace v7:=KC.o _ _ _ v7;replace e1:=KC.o _ _ _ e1;replace e2:=KC.o _ _ _ e2;replace e3:=KC.o _ _ _ e3;clear KC;generalize ((w.alloc (.cells (Qd 0 false false 0) 81)).setRow w.heap.size (Qd ly ke st fm))=w5 at *
 have y0:w5.cell? ⟨w,0,none⟩=some (.int .i64 ly):=Zc JF 0 rfl;have y1:w5.cell? ⟨w,1,none⟩=some (.bool ke):=Zc JF 1 rfl;have y2:w5.cell? ⟨w,2,none⟩=some (.bool st):=Zc JF 2 rfl;clear JF;cases q with
 | true=>
  exact mY
 | false=>
 cases ke with
 | false=>
  exact mY
 | true=>
 cases st with
 | false=>
  exact mY
 | true=>
 by_cases h1:ly=wt
 rotate_left
 ·have f1:(ly == wt)=false:=by rw [WR];exact h1
  go_quiet (fail)
  have X8:=Zh (below_drewN HB.o nq);go_wp2_with fail
  go_ret;exact ⟨by rw [HX.o,WI h1];rfl,X8.o⟩
 have f1:(ly == wt)=true:=by rw [beq_iff_eq];exact h1
 by_cases h2:ly=cu
 ·have f2:(ly != cu)=false:=by rw [bne_eq_false_iff_eq];exact h2
  have H1:=Zh h1;have H2:=Zh h2;clear h1 h2;go_quiet (fail)
  have X8:=Zh (below_drewN HB.o nq);go_wp2_with fail
  go_ret;exact ⟨by rw [HX.o,Wi H1.o,Wi H2.o];rfl,X8.o⟩
 have f2:(ly != cu)=true:=by rw [RQ];exact h2
 have H1:=Zh h1;have H2:=Zh h2;clear h1 h2;go_quiet (fail)
 have X8:=Zh (below_drewN HB.o nq);go_wp2_with fail
 go_ret;exact ⟨by rw [HX.o,Wi H1.o,WI H2.o];rfl,X8.o⟩
end
end Go.Proofs.By
namespace Go.Proofs.By
open Go.RowKit Go.Proofs.Heap Go.Proofs
open Go.Proofs.Rm (below_drewN)
theorem Pn {w:World} {g o:Nat} {xs:List Value} (h:w.rangeAt g o xs) (m:Nat) {v:Value} (hm:xs[m]?=some v):w.cell? ⟨g,o+m,none⟩=some v:=h m v hm
section
variable {w:World} {V k:Nat} {ov av mv lv:Value} {L:List V7} {x:Zu} {wv cv qv:Value}
theorem iV (h:VB w V k ov av mv lv L x wv cv qv) {j:Nat} (hj:j<L.length) :
  Calls Tryz.prog 143 (Qk (some ⟨k,0,none⟩) (j:Int)) w fun e w'=>e = .returned (.int .i64 (lI L j))∧w=w':=by
 obtain ⟨g,o,c,rfl,M3⟩:=uo h.XC hj;obtain ⟨g',o',c',nm,a1,n1,c1,a2,n2,c2,rfl,GD⟩:=pJ h.ops hj;have b0:w.cell? ⟨k,0,none⟩=some (.slice (some ⟨g',o',none⟩) L.length c'):=Zc h.book 0 rfl;have b1:w.cell? ⟨k,1,none⟩=some (.slice (some ⟨g,o,none⟩) L.length c):=Zc h.book 1 rfl;have a0:=Pn M3 0 rfl;have p0:=Pn GD 0 rfl;rw [Nat.add_zero] at a0 p0;have HX:Hid (lI L j=if (Z5 L j).XC.kind≠2∨(opAt L j).kind=1 then 0 else (opAt L j).kind):=rfl;have zW:(j:Int)<(L.length:Int):=OP.2 hj;generalize lI L j=X at *
 generalize (Z5 L j).XC.kind=ak at *
 generalize (opAt L j).kind=kd at *
 clear h M3 GD;by_cases h1:ak=2
 ·subst h1;by_cases h2:kd=1
  ·subst h2;have VA:Hid (X=0):=by show _=_;rw [HX.o,ZR (Wh rfl)]
   exact mV
  ·have VA:Hid (X=kd):=by show _=_;rw [HX.o,Z4 (by rintro (h|h);exact h rfl;exact h2 h)]
   have e2:(kd == 1)=false:=by rw [WR];exact h2
   exact mV
 ·have VA:Hid (X=0):=by show _=_;rw [HX.o,ZR (Ws h1)]
  have e1:(ak != 2)=true:=by rw [RQ];exact h1
  exact mV
end
def XL (s:VS):List Value:=(Qf s.want s.cur s.ZQ s.ZE)
theorem KL (sv:VS) (kd q:Int) (w:World) :
  Calls Tryz.prog 144 (Qs (XL sv).toArray kd q) w fun e w'=>e = .returned (.agg (XL (Mj sv kd q)).toArray)∧Below w w w':=by
 have HX:Hid (Mj sv kd q=if kd=12 then {sv with want:=q} else if kd=10 then {sv with ZQ:=true,cur:= -1} else if kd=11 then {sv with ZQ:=false} else sv):=rfl;generalize Mj sv kd q=X at *
 obtain ⟨a,c,pz,mz⟩:=sv;dsimp only [XL] at HX ⊢;by_cases h1:kd=12
 ·subst h1;have VA:Hid (X=⟨q,c,pz,mz⟩):=by show _=_;rw [HX.o,ZR rfl]
  clear HX;go_enter Tryz.func144,Tryz.ntmps144;go_wp2_with fail
  refine VD (v:= .agg (Qf q c pz mz)) ?_ rfl ?_
  ·exact results_cell_row Zr _ _ (w.heap.size+1) 202 (Qf q c pz mz) (0,0) _ Zr (V5 w _ _).2 Tryz.underlying202 rfl ZB
  exact ⟨by rw [VA.o],ZF (Z' w _) (Zw _) _⟩
 by_cases h2:kd=10
 ·subst h2;have VA:Hid (X=⟨a,-1,true,mz⟩):=by show _=_;rw [HX.o,Z4 Zd,ZR rfl]
  clear HX;go_enter Tryz.func144,Tryz.ntmps144;go_wp2_with fail
  refine VD (v:= .agg (Qf a (-1) true mz)) ?_ rfl ?_
  ·exact results_cell_row Zr _ _ (w.heap.size+1) 202 (Qf a (-1) true mz) (0,0) _ Zr (V5 w _ _).2 Tryz.underlying202 rfl ZB
  exact ⟨by rw [VA.o],ZF (Z' w _) (Zw _) _⟩
 by_cases h3:kd=11
 ·subst h3;have VA:Hid (X=⟨a,c,false,mz⟩):=by show _=_;rw [HX.o,Z4 Zd,Z4 Zd,ZR rfl]
  clear HX;go_enter Tryz.func144,Tryz.ntmps144;go_wp2_with fail
  refine VD (v:= .agg (Qf a c false mz)) ?_ rfl ?_
  ·exact results_cell_row Zr _ _ (w.heap.size+1) 202 (Qf a c false mz) (0,0) _ Zr (V5 w _ _).2 Tryz.underlying202 rfl ZB
  exact ⟨by rw [VA.o],ZF (Z' w _) (Zw _) _⟩
 have VA:Hid (X=⟨a,c,pz,mz⟩):=by show _=_;rw [HX.o,Z4 h1,Z4 h2,Z4 h3]
 have e1:(kd == 12)=false:=by rw [WR];exact h1
 have e2:(kd == 10)=false:=by rw [WR];exact h2
 have e3:(kd == 11)=false:=by rw [WR];exact h3
 clear HX;go_enter Tryz.func144,Tryz.ntmps144;go_wp2_with fail
 refine VD (v:= .agg (Qf a c pz mz)) ?_ rfl ?_
 ·exact results_cell_row Zr _ _ (w.heap.size+1) 202 (Qf a c pz mz) (0,0) _ Zr (V5 w _ _).2 Tryz.underlying202 rfl ZB
 exact ⟨by rw [VA.o],ZF (Z' w _) (Zw _) _⟩
theorem LU (V:Nat) (p s b f:Int) (wv cv qv bv:Value) (w:World) (h:w.heap[V]?=some (.cells #[bv,.int .i64 p,.int .i64 s,.int .i64 b,.int .i64 f,wv,cv,qv] 164 (0,0))) (at':Int) :
  Calls Tryz.prog 92 (Qk (some ⟨V,0,none⟩) at') w fun e w'=>e = .returned (.bool (there ⟨p,s,b,f⟩ at'))∧w=w':=by
 have c3:w.cell? ⟨V,3,none⟩=some (.int .i64 b):=Zc h 3 rfl;have c4:w.cell? ⟨V,4,none⟩=some (.int .i64 f):=Zc h 4 rfl;have HX:Hid (there ⟨p,s,b,f⟩ at'=(decide (b<at') && decide (at'≤f))):=rfl;generalize there ⟨p,s,b,f⟩ at'=X at *
 clear h;by_cases h1:b<at'
 ·have d1:decide (b<at')=true:=Wi h1;go_enter Tryz.func92,Tryz.ntmps92;go_wp2_with fail
  go_ret;exact ⟨by rw [HX.o,d1];rfl,rfl⟩
 ·have d1:decide (b<at')=false:=WI h1;go_enter Tryz.func92,Tryz.ntmps92;go_wp2_with fail
  go_ret;exact ⟨by rw [HX.o,d1];rfl,rfl⟩
theorem LW (w:World) (at':Int):Calls Tryz.prog 92 (Qk none at') w fun e w'=>e = .returned (.bool false)∧w=w':=by
 go_enter Tryz.func92,Tryz.ntmps92;go_wp2_with fail
 go_ret;exact ⟨rfl,rfl⟩
theorem rJ (V k:Nat) (L:List V7) (x:Zu) (wv cv qv:Value) (w:World) (h:w.heap[V]?=some (.cells (Q6 (some ⟨k,0,none⟩) x.peer x.source x.MR x.fin wv cv qv) 164 (0,0))) (hr:OL w wv cv qv (WQ L x (L.length+1))) (h0:0≤x.MR) (h1:x.fin≤L.length) (at':Int) :
  Calls Tryz.prog 62 (Qk (some ⟨V,0,none⟩) at') w fun e w'=>e = .returned (.int .i64 (if there x at' then (Yi L x at'.toNat).want else -1))∧w=w':=by
 obtain ⟨p,s,b,f⟩:=x;dsimp only at h h0 h1;have CT:=Zh (LU V p s b f wv cv qv _ w h at');by_cases ht:there ⟨p,s,b,f⟩ at'=true
 ·rw [ZR ht];rw [ht] at CT
  have h2:0≤at'∧at'.toNat<L.length+1:=by
   unfold there at ht;simp only [UR,Pz] at ht;omega
  obtain ⟨g,o,n,c,hv,hj,hc⟩:=(hr.at (Ra L ⟨p,s,b,f⟩ h2.2)).want;obtain ⟨j,Mc⟩:∃ j:Nat,at'.toNat=j:=⟨_,rfl⟩;have VQ:at'=(j:Int):=by omega
  rw [Mc] at hj hc ⊢;subst VQ;have zW:(j:Int)<(n:Int):=OP.2 hj;have v5:w.cell? ⟨V,5,none⟩=some (.slice (some ⟨g,o,none⟩) n c):=by rw [cell_of h 5,←hv];rfl
  generalize (Yi L ⟨p,s,b,f⟩ j).want=z at *
  clear h hr ht hv h2 Mc;go_enter Tryz.func62,Tryz.ntmps62;exact BM
 ·rw [Z4 ht];rw [Bool.not_eq_true] at ht;rw [ht] at CT;clear h hr ht;go_enter Tryz.func62,Tryz.ntmps62;exact BM
theorem rK (w:World) (at':Int):Calls Tryz.prog 62 (Qk none at') w fun e w'=>e = .returned (.int .i64 (-1))∧w=w':=by
 have CT:=Zh (LW w at');go_enter Tryz.func62,Tryz.ntmps62;exact BM
theorem mN (V k:Nat) (L:List V7) (x:Zu) (wv cv qv:Value) (w:World) (h:w.heap[V]?=some (.cells (Q6 (some ⟨k,0,none⟩) x.peer x.source x.MR x.fin wv cv qv) 164 (0,0))) (hr:OL w wv cv qv (WQ L x (L.length+1))) (h0:0≤x.MR) (h1:x.fin≤L.length) (at':Int) :
  Calls Tryz.prog 65 (Qk (some ⟨V,0,none⟩) at') w fun e w'=>e = .returned (.int .i64 (if there x at' then (Yi L x at'.toNat).cur else -1))∧w=w':=by
 obtain ⟨p,s,b,f⟩:=x;dsimp only at h h0 h1;have CT:=Zh (LU V p s b f wv cv qv _ w h at');by_cases ht:there ⟨p,s,b,f⟩ at'=true
 ·rw [ZR ht];rw [ht] at CT
  have h2:0≤at'∧at'.toNat<L.length+1:=by
   unfold there at ht;simp only [UR,Pz] at ht;omega
  obtain ⟨g,o,n,c,hv,hj,hc⟩:=(hr.at (Ra L ⟨p,s,b,f⟩ h2.2)).cur;obtain ⟨j,Mc⟩:∃ j:Nat,at'.toNat=j:=⟨_,rfl⟩;have VQ:at'=(j:Int):=by omega
  rw [Mc] at hj hc ⊢;subst VQ;have zW:(j:Int)<(n:Int):=OP.2 hj;have v5:w.cell? ⟨V,6,none⟩=some (.slice (some ⟨g,o,none⟩) n c):=by rw [cell_of h 6,←hv];rfl
  generalize (Yi L ⟨p,s,b,f⟩ j).cur=z at *
  clear h hr ht hv h2 Mc;go_enter Tryz.func65,Tryz.ntmps65;exact BM
 ·rw [Z4 ht];rw [Bool.not_eq_true] at ht;rw [ht] at CT;clear h hr ht;go_enter Tryz.func65,Tryz.ntmps65;exact BM
theorem mO (w:World) (at':Int):Calls Tryz.prog 65 (Qk none at') w fun e w'=>e = .returned (.int .i64 (-1))∧w=w':=by
 have CT:=Zh (LW w at');go_enter Tryz.func65,Tryz.ntmps65;exact BM
theorem vL (V k:Nat) (L:List V7) (x:Zu) (wv cv qv:Value) (w:World) (h:w.heap[V]?=some (.cells (Q6 (some ⟨k,0,none⟩) x.peer x.source x.MR x.fin wv cv qv) 164 (0,0))) (hr:OL w wv cv qv (WQ L x (L.length+1))) (h0:0≤x.MR) (h1:x.fin≤L.length) (at':Int) :
  Calls Tryz.prog 64 (Qk (some ⟨V,0,none⟩) at') w fun e w'=>e = .returned (.bool (if there x at' then (Yi L x at'.toNat).quiet else true))∧w=w':=by
 obtain ⟨p,s,b,f⟩:=x;dsimp only at h h0 h1;have CT:=Zh (LU V p s b f wv cv qv _ w h at');by_cases ht:there ⟨p,s,b,f⟩ at'=true
 ·rw [ZR ht];rw [ht] at CT
  have h2:0≤at'∧at'.toNat<L.length+1:=by
   unfold there at ht;simp only [UR,Pz] at ht;omega
  obtain ⟨g,o,n,c,hv,hj,hc⟩:=(hr.at (Ra L ⟨p,s,b,f⟩ h2.2)).quiet;obtain ⟨j,Mc⟩:∃ j:Nat,at'.toNat=j:=⟨_,rfl⟩;have VQ:at'=(j:Int):=by omega
  rw [Mc] at hj hc ⊢;subst VQ;have zW:(j:Int)<(n:Int):=OP.2 hj;have v5:w.cell? ⟨V,7,none⟩=some (.slice (some ⟨g,o,none⟩) n c):=by rw [cell_of h 7,←hv];rfl
  generalize (Yi L ⟨p,s,b,f⟩ j).quiet=z at *
  clear h hr ht hv h2 Mc;go_enter Tryz.func64,Tryz.ntmps64;exact BM
 ·rw [Z4 ht];rw [Bool.not_eq_true] at ht;rw [ht] at CT;clear h hr ht;go_enter Tryz.func64,Tryz.ntmps64;exact BM
theorem vM (w:World) (at':Int):Calls Tryz.prog 64 (Qk none at') w fun e w'=>e = .returned (.bool true)∧w=w':=by
 have CT:=Zh (LW w at');go_enter Tryz.func64,Tryz.ntmps64;exact BM
end Go.Proofs.By
