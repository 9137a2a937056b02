/- Part of a proof. -/
import Derived.Test.YtpdjhlcbcomdkaaGreatDoorF27
import Derived.Test.YtpdjhlcbcomdkaaGreatDoorF28
set_option linter.unusedVariables false
set_option linter.unusedSimpArgs false
set_option maxRecDepth 100000
set_option maxHeartbeats 16000000
open Go Go.Q Go.Qr
namespace Go.Proofs.By
open Go.RowKit Go.Proofs.Heap Go.Proofs
open Go.Proofs.Rm (below_drewN Zb)
theorem Vu {P:Program} {fn:Func} {p u v x:Tmp} {ty:TypeId} (h:fn.results=#[.cell p ty,.tmp u,.tmp v,.tmp x]) (tmps:Array Value) (w:World) (g:Nat) (t:TypeId) (cs:Array Value) (fr:Nat × Nat) (d:TypeDesc)
  (hp:tmps.getD p undef = .pointer (some ⟨g,0,none⟩)) (hg:w.heap[g]?=some (.cells cs t fr))
  (hu:P.underlying ty=some d) (hd:(match d with | .struct _ | .array _ _=>true|_=>false)=true) (hi:(P.info? ty).map (·.size)=some cs.size) :
  (results fn tmps).run P w = .ok (.tuple #[.agg cs,tmps.getD u undef,tmps.getD v undef,tmps.getD x undef]) w:=by
 exact Yt6
structure PG (w w':World) (cs:List Value):Prop where
 YI:Below w w w'
 z:w'.heap[w.heap.size+1]?=some (.cells (Qb false 0 0 0 0 none 0 0 false 0 none 0 0 none 0 0 0) 79 (0,0))
 Y8:w'.heap[w.heap.size]?=some (.cells cs.toArray 79 (0,0))
section
variable {w w1 w2:World} {cs:List Value}
theorem PG.below (h:PG w w1 cs) (hb:Below w1 w1 w2):PG w w2 cs:=⟨h.YI.trans (hb.mono h.YI.size),(hb.block _ (ZQ h.z)).trans h.z,(hb.block _ (ZQ h.Y8)).trans h.Y8⟩
theorem PG.set (h:PG w w1 cs) (j:Nat) (u:Value):PG w (w1.setCell ⟨w,j,none⟩ u) (cs.set j u):=by
 have h2:=WA h.Y8 j u
 rw [List.setIfInBounds_toArray] at h2
 exact ⟨((Fr.Z9 Lm h.YI).setCell (p:=⟨w,j,none⟩) (Wc (ZB _)) _).below,(Hk w1 ⟨w,j,none⟩ u (w.heap.size+1) (by show w.heap.size+1≠w.heap.size;omega)).trans h.z,h2⟩
theorem PG.grown (h:PG w w1 cs) {e:TypeId} {size:Nat} {v:Value} {n:Nat} {xs:List Value} (ho:w1.ownsRow w e size v n xs) (he:79≠e) (hg:w1.grownBy w2 v.ownBlock):PG w w2 cs:=
 ⟨((Fr.Z9 Lm h.YI).grown hg h.YI.size (Rm.Yw ho)).below,(hg.block _ (ZQ h.z) (fun x=>X4 ho he _ _ _ x.symm h.z)).trans h.z,(hg.block _ (ZQ h.Y8) (fun x=>X4 ho he _ _ _ x.symm h.Y8)).trans h.Y8⟩
theorem PG.start (w:World):PG w (((w.alloc (.cells (Qb false 0 0 0 0 none 0 0 false 0 none 0 0 none 0 0 0) 79)).alloc (.cells (Qb false 0 0 0 0 none 0 0 false 0 none 0 0 none 0 0 0) 79)).setRow (w.heap.size+1) (Qb false 0 0 0 0 none 0 0 false 0 none 0 0 none 0 0 0)) (Qb false 0 0 0 0 none 0 0 false 0 none 0 0 none 0 0 0)∧((w.alloc (.cells (Qb false 0 0 0 0 none 0 0 false 0 none 0 0 none 0 0 0) 79)).alloc (.cells (Qb false 0 0 0 0 none 0 0 false 0 none 0 0 none 0 0 0) 79)).heap[w.heap.size+1]?=some (.cells (Qb false 0 0 0 0 none 0 0 false 0 none 0 0 none 0 0 0) 79 (0,0)):=by
 have e1:(w.alloc (.cells (Qb false 0 0 0 0 none 0 0 false 0 none 0 0 none 0 0 0) 79)).heap.size=w.heap.size+1:=by show (w.heap.push _).size=_;rw [Rg]
 have hz:((w.alloc (.cells (Qb false 0 0 0 0 none 0 0 false 0 none 0 0 none 0 0 0) 79)).alloc (.cells (Qb false 0 0 0 0 none 0 0 false 0 none 0 0 none 0 0 0) 79)).heap[w.heap.size+1]?=some (.cells (Qb false 0 0 0 0 none 0 0 false 0 none 0 0 none 0 0 0) 79 (0,0)):=by
  have h:=Z5 (w.alloc (.cells (Qb false 0 0 0 0 none 0 0 false 0 none 0 0 none 0 0 0) 79)) (.cells (Qb false 0 0 0 0 none 0 0 false 0 none 0 0 none 0 0 0) 79)
  rw [e1] at h
  exact h
 refine ⟨⟨Z0 (ZA (Z' w _) (ZB _) _) (JK _) _,setRow_heap _ _ _ _ _ _ hz,?_⟩,hz⟩
 rw [setRow_other _ _ _ _ Zo,(Z' (w.alloc (.cells (Qb false 0 0 0 0 none 0 0 false 0 none 0 0 none 0 0 0) 79)) _).block _ (by rw [e1];omega)]
 exact Z5 w _
end
def Ba (b:List UInt8) (n:Nat):List Int:=(List.range n).map fun (i:Nat)=>((get b (12+4*(i:Int)) 4:Nat):Int)
theorem vY {w:World} {B:Nat} {e:TypeId} {size:Nat} {v:Value} {n:Nat} {xs:List Value} (h:w.ownsRow B e size v n xs) {g:Nat} {c:Array Value} {f:Nat × Nat} (hg:w.heap[g]?=some (.cells c 79 f)) (he:79≠e) (o:Nat) (u:Value):(w.setCell ⟨g,o,none⟩ u).ownsRow B e size v n xs:=
 Pp h fun j hj=>by
  by_cases cK:j=g
  ·subst cK;exact absurd hg (X4 h he _ _ _ hj)
  ·exact Hk w ⟨g,o,none⟩ _ j cK
def PH (b:List UInt8):List UInt8:=if at8 b 0 / 16 % 2=1 then (b.drop (UN b)).take (Xq b-UN b) else []
theorem Kb {w w':World} (hg:w.grownBy w' (Value.slice none 0 0).ownBlock):Below w w w':=(YG _ _).grown hg (ZB _) (fun k hk=>by cases hk)
theorem RI {w:World} {e:TypeId} {v:Value} {n:Nat} {xs:List Value} (h:Row w e v n xs) {g:Nat} {c:Array Value} {f:Nat × Nat} (hg:w.heap[g]?=some (.cells c 79 f)) (he:79≠e) (o:Nat) (u:Value):Row (w.setCell ⟨g,o,none⟩ u) e v n xs:=
 Row.fr h ((Fr.refl w.heap.size (· = g) w).setAt o u) (ZB _) (fun k c' fr hk hc=>by
  have hk:k=g:=hk
  rw [hk,hg] at hc
  injection hc with hc
  injection hc with _ hc
  exact he hc)
theorem IC (w:World):OW w (.agg (Qb false 0 0 0 0 none 0 0 false 0 none 0 0 none 0 0 0)) Xp:=⟨_,_,_,rfl,Row.nil _ _,Row.nil _ _,Row.nil _ _⟩
set_option maxRecDepth 1000000 in
theorem B6 {p:Prop} (h:p:=by
 have CR:=Zh (fun (p q:Int) (w':World) (h:Below w w w')=>RX v b p q w' (hv.below h))
 have HX:Hid (YY b=Et b):=zP b
 have HV:Hid (∀ w',Below w w w'→Yn w' v b):=fun w' h=>hv.below h
 obtain ⟨⟨XS,hzz,hbk⟩,hz⟩:=PG.start w
 have HP:Hid (PG w (((w.alloc (.cells (Qb false 0 0 0 0 none 0 0 false 0 none 0 0 none 0 0 0) 79)).alloc (.cells (Qb false 0 0 0 0 none 0 0 false 0 none 0 0 none 0 0 0) 79)).setRow (w.heap.size+1) (Qb false 0 0 0 0 none 0 0 false 0 none 0 0 none 0 0 0)) (Qb false 0 0 0 0 none 0 0 false 0 none 0 0 none 0 0 0)):=⟨XS,hzz,hbk⟩
 have Vj:Hid (∀ w2 er,Below w w w2→YY b=(Xp,er)→(∃ a f t,Ending.returned (.tuple (Qy (Qb false 0 0 0 0 none 0 0 false 0 none 0 0 none 0 0 0) 0 0 er)) = .returned (.tuple #[a,.int .i64 f,.int .i64 t,.int .i64 (YY b).2])∧OW (w2.setRow w.heap.size (Qb false 0 0 0 0 none 0 0 false 0 none 0 0 none 0 0 0)) a (YY b).1)∧Below w w (w2.setRow w.heap.size (Qb false 0 0 0 0 none 0 0 false 0 none 0 0 none 0 0 0))):=fun w2 er h2 h3=>by
  rw [h3]
  exact ⟨⟨_,_,_,rfl,IC _⟩,Z0 h2 (ZB _) _⟩
 obtain ⟨va,c,rfl,TH,xH⟩:∃ a c,v = .slice a b.length c∧b.length≤c∧c≤maxLen:=by
  obtain ⟨a,c,h1,h2,h3,_⟩:=id hv
  exact ⟨a,c,h1,h2,h3⟩
 clear hv XS hzz hbk
 generalize YY b=X at *
 unfold Et at HX
 go_enter Tryz.func94,Tryz.ntmps94
 go_upto_region 2 with (with_reducible refine ZY 79 (.tmp 6) (.tmp 13) rfl ?_;refine Zs hz ?_)
 clear hz
 generalize ((w.alloc (.cells (Qb false 0 0 0 0 none 0 0 false 0 none 0 0 none 0 0 0) 79)).alloc (.cells (Qb false 0 0 0 0 none 0 0 false 0 none 0 0 none 0 0 0) 79)).setRow (w.heap.size+1) (Qb false 0 0 0 0 none 0 0 false 0 none 0 0 none 0 0 0)=w1 at *
 by_cases h1:512<b.length
 ·have l1:decide ((512:Int)<(b.length:Int))=true:=Ws Zo
  have SM:Hid (X=(Xp,5)):=by show _=_;rw [HX.o,ZX h1]
  have UD:=HP.o.z
  have VD:=HP.o.Y8
  go_wp2_with (first|(with_reducible refine Yp 79 (.tmp 6) rfl ?_;refine Zl UD Tryz.underlying79 ?_)|(with_reducible refine ZY 79 (.tmp 2) (.tmp 18) rfl ?_;refine Zs VD ?_))
  refine VR (v:= .tuple (Qy (Qb false 0 0 0 0 none 0 0 false 0 none 0 0 none 0 0 0) 0 0 5)) ?_ rfl ?_
  ·exact aA
  first|exact Vj.o _ 5 HP.o.YI SM.o|(obtain ⟨⟨a,f,t,k1,k2⟩,k3⟩:=Vj.o _ 5 HP.o.YI SM.o;exact ⟨⟨a,⟨f,t,k1⟩,k2⟩,k3⟩)
 have l1:decide ((512:Int)<(b.length:Int))=false:=WN Zo
 by_cases h2:b.length<12
 ·have l2:decide ((b.length:Int)<12)=true:=Ws Zo
  have SM:Hid (X=(Xp,2)):=by show _=_;rw [HX.o,Z6 h1,ZX h2]
  have UD:=HP.o.z
  have VD:=HP.o.Y8
  go_wp2_with (first|(with_reducible refine Yp 79 (.tmp 6) rfl ?_;refine Zl UD Tryz.underlying79 ?_)|(with_reducible refine ZY 79 (.tmp 2) (.tmp 23) rfl ?_;refine Zs VD ?_))
  exact Yt1
 have l2:decide ((b.length:Int)<12)=false:=WN Zo
 rw [Z6 h1,Z6 h2] at HX
 obtain ⟨g,off,cap,e1,_,_,hc⟩:=SC (HV.o w1 HP.o.YI) Zo
 cases e1
 have d0:=hc 0 Zo
 have d1:=hc 1 Zo
 have HD:Hid (∀ w',Below w w w'→∀ j,j<b.length→w'.cell? ⟨g,off+j,none⟩=some (.int .u8 (at8 b j:Int))):=fun w' h j hj=>by
  obtain ⟨_,_,_,e,_,_,hc⟩:=SC (HV.o w' h) Zo
  cases e
  exact hc j hj
 rw [Nat.add_zero] at d0
 have i0:(0:Int)<(b.length:Int):=by omega
 have i1:(1:Int)<(b.length:Int):=by omega
 have r0:=XM b 0
 have r1:=XM b 1
 clear hc
 obtain ⟨x0,Ro⟩:∃ x,x=at8 b 0:=⟨_,rfl⟩
 obtain ⟨x1,Tm⟩:∃ x,x=at8 b 1:=⟨_,rfl⟩
 have kq:Hid (∀ w',Below w w w'→w'.cell? ⟨g,off,none⟩=some (.int .u8 (x0:Int))∧w'.cell? ⟨g,off+1,none⟩=some (.int .u8 (x1:Int))):=fun w' h=>⟨by have k:=HD.o w' h 0 Zo;rw [Nat.add_zero,←Ro] at k;exact k,by rw [Tm];exact HD.o w' h 1 Zo⟩
 rw [←Ro] at d0 r0
 rw [←Tm] at d1 r1
 by_cases h3:x0<128∨191<x0
 ·by_cases h3a:x0<128
  case' pos=>have q3:decide ((x0:Int)<128)=true:=Ws Zo
  case' neg=>have q3:decide ((x0:Int)<128)=false:=WN Zo;have q4:decide ((191:Int)<(x0:Int))=true:=Ws Zo
  all_goals
   have SM:Hid (X=(Xp,1)):=by show _=_;rw [HX.o,ZX (by rw [←Ro];exact h3)]
   have UD:=HP.o.z
   have VD:=HP.o.Y8
   go_wp2_with (first|(with_reducible refine Yp 79 (.tmp 6) rfl ?_;refine Zl UD Tryz.underlying79 ?_)|(with_reducible refine ZY 79 (.tmp 2) (.tmp 35) rfl ?_;refine Zs VD ?_))
   refine VR (v:= .tuple (Qy (Qb false 0 0 0 0 none 0 0 false 0 none 0 0 none 0 0 0) 0 0 1)) ?_ rfl ?_
   ·exact Vu (p:=2) (u:=3) (v:=4) (x:=5) Zr _ _ w.heap.size 79 (Qb false 0 0 0 0 none 0 0 false 0 none 0 0 none 0 0 0) (0,0) _ Zr (setRow_heap _ _ _ _ _ _ VD) Tryz.underlying79 rfl Zk
   first|exact Vj.o _ 1 HP.o.YI SM.o|(obtain ⟨⟨a,f,t,k1,k2⟩,k3⟩:=Vj.o _ 1 HP.o.YI SM.o;exact ⟨⟨a,⟨f,t,k1⟩,k2⟩,k3⟩)
 have q3:decide ((x0:Int)<128)=false:=WN Zo
 have q4:decide ((191:Int)<(x0:Int))=false:=WN Zo
 rw [Z6 (by rw [←Ro];exact h3)] at HX
 by_cases h4:192≤x1∧x1≤223
 ·try (exfalso;omega)
  all_goals
   have q5:decide ((192:Int)≤(x1:Int))=true:=Ws Zo
   have q6:decide ((x1:Int)≤223)=true:=Ws Zo
   have SM:Hid (X=(Xp,4)):=by show _=_;rw [HX.o,ZX (by rw [←Tm];exact h4)]
   have UD:=HP.o.z
   have VD:=HP.o.Y8
   go_wp2_with (first|(with_reducible refine Yp 79 (.tmp 6) rfl ?_;refine Zl UD Tryz.underlying79 ?_)|(with_reducible refine ZY 79 (.tmp 2) (.tmp 47) rfl ?_;refine Zs VD ?_))
   refine VR (v:= .tuple (Qy (Qb false 0 0 0 0 none 0 0 false 0 none 0 0 none 0 0 0) 0 0 4)) ?_ rfl ?_
   ·exact Vu (p:=2) (u:=3) (v:=4) (x:=5) Zr _ _ w.heap.size 79 (Qb false 0 0 0 0 none 0 0 false 0 none 0 0 none 0 0 0) (0,0) _ Zr (setRow_heap _ _ _ _ _ _ VD) Tryz.underlying79 rfl Zk
   first|exact Vj.o _ 4 HP.o.YI SM.o|(obtain ⟨⟨a,f,t,k1,k2⟩,k3⟩:=Vj.o _ 4 HP.o.YI SM.o;exact ⟨⟨a,⟨f,t,k1⟩,k2⟩,k3⟩)
 rw [Z6 (by rw [←Tm];exact h4)] at HX
 obtain ⟨sq,hsq⟩:∃ x:Nat,x=get b 2 2:=⟨_,rfl⟩
 obtain ⟨tm,jP⟩:∃ x:Nat,x=get b 4 4:=⟨_,rfl⟩
 obtain ⟨sr,hsr⟩:∃ x:Nat,x=get b 8 4:=⟨_,rfl⟩
 have C2:=Zh (fun (w':World) (h:Below w w w')=>CR.o 2 2 w' h)
 have C4:=Zh (fun (w':World) (h:Below w w w')=>CR.o 4 4 w' h)
 have C8:=Zh (fun (w':World) (h:Below w w w')=>CR.o 8 4 w' h)
 rw [←hsq] at C2
 rw [←jP] at C4
 rw [←hsr] at C8
 have bsq:IntKind.u16.wrap (sq:Int)=(sq:Int):=by have:=NL b 2;rw [IntKind.wrap_u16];omega
 have btm:IntKind.u32.wrap (tm:Int)=(tm:Int):=by have:=Xu b 4;rw [NC];omega
 have bsr:IntKind.u32.wrap (sr:Int)=(sr:Int):=by have:=Xu b 8;rw [NC];omega
 have HH:Hid (sq=get b 2 2∧tm=get b 4 4∧sr=get b 8 4∧x0=at8 b 0∧x1=at8 b 1):=⟨hsq,jP,hsr,Ro,Tm⟩
 obtain ⟨ty,Jv⟩:∃ x:Nat,x=x1 % 128:=⟨_,rfl⟩
 obtain ⟨mk,lZ⟩:∃ x:Bool,x=decide (128≤x1):=⟨_,rfl⟩
 obtain ⟨cc,cj⟩:∃ x:Nat,x=x0 % 16:=⟨_,rfl⟩
 have p1:(x1:Int).tmod 128=(ty:Int):=by rw [Int.tmod_eq_emod_of_nonneg Zo];omega
 have p1c:(x1:Int) % 128=(ty:Int):=by omega
 have p1b:IntKind.i64.wrap (ty:Int)=(ty:Int):=Ua _ Zo
 have p2:decide ((128:Int)≤(x1:Int))=mk:=by rw [lZ,Bool.eq_iff_iff,NB,NB];omega
 have p3:(x0:Int).tmod 16=(cc:Int):=by rw [Int.tmod_eq_emod_of_nonneg Zo];omega
 have p3c:(x0:Int) % 16=(cc:Int):=by omega
 have p3b:IntKind.i64.wrap (cc:Int)=(cc:Int):=Ua _ Zo
 have hcc16:cc<16:=by omega
 have HM:Hid (ty=x1 % 128∧mk=decide (128≤x1)∧cc=x0 % 16):=⟨Jv,lZ,cj⟩
 have Gz:¬b.length<12:=h2
 have hb512:¬512<b.length:=h1
 first
 | (have q5:decide ((192:Int)≤(x1:Int))=false:=WN Zo)
 | (have q5:decide ((192:Int)≤(x1:Int))=true:=Ws Zo;have q6:decide ((x1:Int)≤223)=false:=WN Zo)
 clear hsq jP hsr Ro Tm Jv lZ cj h1 h2 h3 h4 vD
 go_upto_region 10 with fail
 have zc:=cell_of HP.o.Y8 1
 simp only [R9,R8,RT] at zc
 have fc:=ZI HP.o.Y8 1
 go_upto_region 11 with fail
 have HP:Hid (PG w (w1.setCell ⟨w,1,none⟩ (.int .i64 (ty:Int))) (Qb false (ty:Int) 0 0 0 none 0 0 false 0 none 0 0 none 0 0 0)):=HP.o.set 1 (.int .i64 (ty:Int))
 clear zc fc
 generalize w1.setCell ⟨w,1,none⟩ (.int .i64 (ty:Int))=w2 at *
 obtain ⟨d0,d1⟩:=kq.o w2 HP.o.YI
 have zc:=cell_of HP.o.Y8 0
 simp only [R9,R8,RT] at zc
 have fc:=ZI HP.o.Y8 0
 go_upto_region 12 with fail
 have HP:Hid (PG w (w2.setCell ⟨w,0,none⟩ (.bool mk)) (Qb mk (ty:Int) 0 0 0 none 0 0 false 0 none 0 0 none 0 0 0)):=HP.o.set 0 (.bool mk)
 clear zc fc
 generalize w2.setCell ⟨w,0,none⟩ (.bool mk)=w3 at *
 have zc:=cell_of HP.o.Y8 2
 simp only [R9,R8,RT] at zc
 have fc:=ZI HP.o.Y8 2
 go_upto_region 13 with (go_at_call 118;refine (C2.o _ HP.o.YI).mono ?_;rintro e w' ⟨rfl,rfl⟩)
 have HP:Hid (PG w (w3.setCell ⟨w,2,none⟩ (.int .u16 (sq:Int))) (Qb mk (ty:Int) (sq:Int) 0 0 none 0 0 false 0 none 0 0 none 0 0 0)):=HP.o.set 2 (.int .u16 (sq:Int))
 clear zc fc
 generalize w3.setCell ⟨w,2,none⟩ (.int .u16 (sq:Int))=w4 at *
 have zc:=cell_of HP.o.Y8 3
 simp only [R9,R8,RT] at zc
 have fc:=ZI HP.o.Y8 3
 go_upto_region 14 with (go_at_call 118;refine (C4.o _ HP.o.YI).mono ?_;rintro e w' ⟨rfl,rfl⟩)
 have HP:Hid (PG w (w4.setCell ⟨w,3,none⟩ (.int .u32 (tm:Int))) (Qb mk (ty:Int) (sq:Int) (tm:Int) 0 none 0 0 false 0 none 0 0 none 0 0 0)):=HP.o.set 3 (.int .u32 (tm:Int))
 clear zc fc
 generalize w4.setCell ⟨w,3,none⟩ (.int .u32 (tm:Int))=w5 at *
 have zc:=cell_of HP.o.Y8 4
 simp only [R9,R8,RT] at zc
 have fc:=ZI HP.o.Y8 4
 go_upto_region 15 with (go_at_call 118;refine (C8.o _ HP.o.YI).mono ?_;rintro e w' ⟨rfl,rfl⟩)
 have HP:Hid (PG w (w5.setCell ⟨w,4,none⟩ (.int .u32 (sr:Int))) (Qb mk (ty:Int) (sq:Int) (tm:Int) (sr:Int) none 0 0 false 0 none 0 0 none 0 0 0)):=HP.o.set 4 (.int .u32 (sr:Int))
 clear zc fc
 generalize w5.setCell ⟨w,4,none⟩ (.int .u32 (sr:Int))=w6 at *
 obtain ⟨d0,d1⟩:=kq.o w6 HP.o.YI
 clear C2 C4 C8 bsq btm bsr p1 p1c p1b p2 q3 q4 q5
 go_wp2_with fail
 clear d0 d1 p3 p3c p3b
 go_loopw [7,8] (fun s7 s8 w'=>∃ (i pos k:Nat) (a:Option Addr) (q:Nat),i+k=cc∧pos=12+4*i∧pos≤b.length∧s7 = .int .i64 (pos:Int)∧s8 = .int .i64 (k:Int)∧PG w w' (Qb mk (ty:Int) (sq:Int) (tm:Int) (sr:Int) a i q false 0 none 0 0 none 0 0 0)∧w'.ownsRow w 66 1 (.slice a i q) i (Zb (Ba b i))) (fun _ s8 _=>(intOf s8).toNat)
 case atStart=>exact ⟨0,12,cc,none,0,Zo,Zo,Zo,rfl,rfl,HP.o,Us _ _ _ _⟩
 case round=>
  obtain ⟨i,pos,k,a,q,hik,Rk,sf,rfl,rfl,Fp,YO⟩:=hrel
  have HP:=Zh Fp
  have HO:=Zh YO
  clear Fp YO
  by_cases lW:0<k
  ·have dk:decide ((0:Int)<(k:Int))=true:=Ws Zo
   have mh:IntKind.i64.wrap ((pos:Int)+4)=(pos:Int)+4:=Ua _ Zo
   by_cases h7:b.length<pos+4
   ·have l7:decide ((b.length:Int)<(pos:Int)+4)=true:=Ws Zo
    have SM:Hid (X=(Xp,2)):=by show _=_;rw [HX.o,ZX (by have:=HM.o.2.2;have:=HH.o.2.2.2.1;omega)]
    have UD:=HP.o.z
    have VD:=HP.o.Y8
    go_wp2_with (first|(with_reducible refine Yp 79 (.tmp 6) rfl ?_;refine Zl UD Tryz.underlying79 ?_)|(with_reducible refine ZY 79 (.tmp 2) (.tmp 85) rfl ?_;refine Zs VD ?_))
    exact Yt1
   have l7:decide ((b.length:Int)<(pos:Int)+4)=false:=WN Zo
   obtain ⟨y0,jT⟩:∃ x:Nat,x=get b (pos:Int) 4:=⟨_,rfl⟩
   have Lj:Hid (Ba b (i+1)=Ba b i++[(y0:Int)]):=by
    show _=_
    rw [jT,Rk]
    unfold Ba
    rw [Aq,ND]
    simp
   have C0:=Zh (fun (w':World) (h:Below w w w')=>CR.o (pos:Int) 4 w' h)
   rw [←jT] at C0
   have Ri:IntKind.u32.wrap (y0:Int)=(y0:Int):=by have:=Xu b (pos:Int);rw [NC];omega
   have hkm:IntKind.i64.wrap ((k:Int)-1)=((k-1:Nat):Int):=by rw [Ua _ Zo];omega
   have Fx:pos≤512:=by omega
   have OI:Hid (i+k=cc∧pos=12+4*i∧0<k∧pos+4≤b.length):=⟨hik,Rk,lW,Zo⟩
   have hi16:i≤16:=by omega
   clear Rk jT hik sf h7
   go_upto_region 21 with fail
   have HP:=Zh (HP.o.below (YG _ _).drew)
   have HO:=Zh (X9 HO.o (YG _ _).drew)
   have k0:(wr.drew).cell? ⟨w,5,none⟩=some (.slice a i q):=Zc HP.o.Y8 5 rfl
   refine QN ?_
   refine Z3.Yq (d:=9) (S:=(fun w'=>w'.cell? ⟨w,5,none⟩=some (.slice a i q))) Zk ?_ (fun Yb=>?_)
   ·exact k0
   refine YP 0 (h:=YP 2 (h:=YP 3 (h:=YK 1 (h:=?_))))
   refine YR 4 (h:=fun K hK=>?_)
   go_simp
   refine (C0.o _ HP.o.YI).mono ?_
   rintro e w' ⟨rfl,rfl⟩
   go_wp2_with fail
   refine Z3.Xl hK _ _ ?_ (fun XX=>?_)
   ·exact k0
   clear hK K
   try simp only [Z3.pt]
   refine YP 5 (h:=?_)
   refine YR 6 (h:=fun K hK=>?_)
   refine Mm Zr V4 (.tmp 91) Zr (.int .u32 (y0:Int)) Zr rfl ?_
   have HP:=Zh (HP.o.below (Z' wr.drew (.cells #[.int .u32 (y0:Int)] 66)))
   have HO:=Zh (X9 HO.o (Z' wr.drew (.cells #[.int .u32 (y0:Int)] 66)))
   have k1:=cell_of HP.o.Y8 5
   simp only [R9,R8,RT] at k1
   refine Z3.Xl hK _ _ ?_ (fun Wo=>?_)
   ·exact k1
   clear hK K
   try simp only [Z3.pt]
   refine YR 7 (h:=fun K hK=>?_)
   refine Zw Zr (.tmp 87) (.tmp 92) 29 Zr w.heap.size V4 (.slice a i q) i (Zb (Ba b i)) Zr HO.o _ 1 (Zb [(y0:Int)]) Zr (UJ wr.drew 66 1 (Zb [(y0:Int)]) Zd) rfl (K_ _) Zo Zo ?_ ?_
   ·exact HP.o.YI.size
   intro v' w7 EX yr
   obtain ⟨na,nq,Ig,-⟩:=Row.ZV EX.o
   subst Ig
   have HP:=Zh (HP.o.grown HO.o Zd yr.o)
   have HO:Hid (w7.ownsRow w 66 1 (.slice na (i+1) nq) (i+1) (Zb (Ba b i++[(y0:Int)]))):=(by have h:=EX.o;rw [show Zb (Ba b i)++Zb [(y0:Int)]=Zb (Ba b i++[(y0:Int)]) from (ND ..).symm] at h;exact h)
   have k2:=cell_of HP.o.Y8 5
   simp only [R9,R8,RT] at k2
   have f2:=ZI HP.o.Y8 5
   refine Z3.Xl hK _ _ ?_ (fun Oc=>?_)
   ·exact k2
   clear hK K
   try simp only [Z3.pt]
   refine YP 8 (h:=?_)
   refine YR 9 (h:=fun K hK=>?_)
   go_simp
   refine Z3.WO hK _ _ Zk ?_
   clear hK K
   try simp only [Z3.pt]
   refine Z3.Xz Zk ?_ _
   refine Py ?_
   go_wp2_with fail
   go_roundw
   case rel=>
    refine ⟨i+1,pos+4,k-1,na,nq,by have:=OI.o;omega,by have:=OI.o;omega,by have:=OI.o;omega,Zn,rfl,HP.o.set 5 (.slice na (i+1) nq),?_⟩
    rw [Lj.o];exact vY HO.o HP.o.Y8 Zd _ _
   case measure=>have:=OI.o;simp [intOf];omega
  ·obtain rfl:k=0:=by omega
   obtain rfl:i=cc:=by omega
   have Tf:=Zh (Row.ZV HO.o)
   have OI:Hid (pos=12+4*i∧pos≤b.length):=⟨Rk,sf⟩
   have Fx:pos≤512:=by omega
   obtain ⟨d0,d1⟩:=kq.o wr HP.o.YI
   obtain ⟨y,hy⟩:∃ y:Nat,y=x0 / 16:=⟨_,rfl⟩
   have p1:IntKind.u8.wrap ((x0:Int) / 16)=(y:Int):=by rw [IntKind.wrap_u8];omega
   have uz:(y % 2=1)↔at8 b 0 / 16 % 2=1:=by rw [hy,HH.o.2.2.2.1]
   have E0:=Zh uz
   clear HO hik Rk sf lW uz hy
   have HKE:Hid (Xq b=if at8 b 0 / 16 % 2=1 then pos+4+4*get b ((pos:Int)+2) 2 else pos):=by show _=_;unfold Xq;rw [OI.o.1,HM.o.2.2,HH.o.2.2.2.1]
   have HKX:Hid (UN b=if at8 b 0 / 16 % 2=1 then pos+4 else pos):=by show _=_;unfold UN;rw [OI.o.1,HM.o.2.2,HH.o.2.2.2.1]
   have qD:Hid (X=if at8 b 0 / 16 % 2=1∧b.length<pos+4 then (Xp,2) else if b.length<Xq b then (Xp,2) else if at8 b 0 / 32 % 2=1∧(Xq b=b.length∨at8 b (b.length-1)=0∨b.length-Xq b<at8 b (b.length-1)) then (Xp,1) else if at8 b 0 / 32 % 2=1∧¬(((b.drop (b.length-at8 b (b.length-1))).take (at8 b (b.length-1)-1)).all (fun x=>decide (x=0))=true) then (Xp,1) else (Un b (UN b,Xq b,b.length-TZ b),0)):=by
    have e:12+4*(at8 b 0 % 16)=pos:=by rw [OI.o.1,HM.o.2.2,HH.o.2.2.2.1]
    show _=_
    rw [HX.o,e,Z6 (by have:=OI.o.2;omega)]
   clear HX
   go_upto_if 102 with fail
   go_cut [7] (fun s7 wx=>∃ (hx:Bool) (pf:Nat) (ev:Value),s7 = .int .i64 ((Xq b:Nat):Int)∧Xq b≤b.length∧¬(at8 b 0 / 16 % 2=1∧b.length<pos+4)∧hx=decide (at8 b 0 / 16 % 2=1)∧pf=(if at8 b 0 / 16 % 2=1 then get b (pos:Int) 2 else 0)∧PG w wx [.bool mk,.int .i64 (ty:Int),.int .u16 (sq:Int),.int .u32 (tm:Int),.int .u32 (sr:Int),.slice a i q,.bool hx,.int .u16 (pf:Int),ev,.slice none 0 0,.int .i64 0]∧Row wx 66 (.slice a i q) i (Zb (Ba b i))∧Row wx 5 ev (PH b).length (Sr (PH b)))
   case first=>
    by_cases hex:at8 b 0 / 16 % 2=1
    rotate_left
    ·have d9:((y:Int).tmod 2 == 1)=false:=by rw [WT,Int.tmod_eq_emod_of_nonneg Zo];intro h;exact hex (E0.o.1 Zo)
     have d9c:((y:Int) % 2 == 1)=false:=by rw [WT];intro h;exact hex (E0.o.1 Zo)
     have d9d:((x0:Int) / 16 % 2 == 1)=false:=by rw [WT];intro h;have:=HH.o.2.2.2.1;exact hex Zo
     go_wp2_with fail
     go_meet
     have e1:=HKE.o
     rw [Z6 hex] at e1
     exact ⟨false,0,.slice none 0 0,by rw [e1],by rw [e1];exact OI.o.2,fun h=>hex h.1,(WN hex).symm,(Z6 hex).symm,HP.o,Tf.o,by rw [show PH b=[] from Z6 hex];exact Row.nil _ _⟩
    ·have d9:((y:Int).tmod 2 == 1)=true:=by rw [beq_iff_eq,Int.tmod_eq_emod_of_nonneg Zo];have:=E0.o.2 hex;omega
     have d9c:((y:Int) % 2 == 1)=true:=by rw [beq_iff_eq];have:=E0.o.2 hex;omega
     have d9d:((x0:Int) / 16 % 2 == 1)=true:=by rw [beq_iff_eq];have:=HH.o.2.2.2.1;omega
     have mh:IntKind.i64.wrap ((pos:Int)+4)=(pos:Int)+4:=Ua _ Zo
     by_cases h8:b.length<pos+4
     ·have l7:decide ((b.length:Int)<(pos:Int)+4)=true:=Ws Zo
      have SM:Hid (X=(Xp,2)):=by show _=_;rw [qD.o,ZX ⟨hex,h8⟩]
      have UD:=HP.o.z
      have VD:=HP.o.Y8
      go_wp2_with (first|(with_reducible refine Yp 79 (.tmp 6) rfl ?_;refine Zl UD Tryz.underlying79 ?_)|(with_reducible refine ZY 79 (.tmp 2) (.tmp 108) rfl ?_;refine Zs VD ?_))
      exact Yt1
     have l8:decide ((b.length:Int)<(pos:Int)+4)=false:=WN Zo
     obtain ⟨nw,fq⟩:∃ x:Nat,x=get b ((pos:Int)+2) 2:=⟨_,rfl⟩
     obtain ⟨pf,jz⟩:∃ x:Nat,x=get b (pos:Int) 2:=⟨_,rfl⟩
     have hn16:nw<65536:=by rw [fq];exact NL b _
     have C9:=Zh (fun (w':World) (h:Below w w w')=>CR.o ((pos:Int)+2) 2 w' h)
     have CF:=Zh (fun (w':World) (h:Below w w w')=>CR.o (pos:Int) 2 w' h)
     rw [←fq] at C9
     rw [←jz] at CF
     have s2:IntKind.i64.wrap ((pos:Int)+2)=(pos:Int)+2:=Ua _ Zo
     have s3:IntKind.i64.wrap (nw:Int)=(nw:Int):=Ua _ Zo
     have s4:IntKind.i64.wrap (4*(nw:Int))=4*(nw:Int):=Ua _ Zo
     obtain ⟨Z,hZ⟩:∃ Z:Nat,Z=pos+4+4*nw:=⟨_,rfl⟩
     have s5:IntKind.i64.wrap ((pos:Int)+4+4*(nw:Int))=(Z:Int):=by rw [Ua _ Zo];omega
     have s6:IntKind.i64.wrap (4+4*(nw:Int))=4+4*(nw:Int):=Ua _ Zo
     have s7:IntKind.i64.wrap ((pos:Int)+(4+4*(nw:Int)))=(Z:Int):=by rw [Ua _ Zo];omega
     have s8:IntKind.u16.wrap (pf:Int)=(pf:Int):=by rw [jz];have:=NL b (pos:Int);rw [IntKind.wrap_u16];omega
     have JW:Hid (Xq b=Z):=by show _=_;rw [HKE.o,ZX hex,hZ,fq]
     have HPF:=Zh jz
     have hzl:pos+4≤Z:=by omega
     clear fq jz hZ
     by_cases h9:b.length<Z
     ·have l9:decide ((b.length:Int)<(Z:Int))=true:=Ws Zo
      have SM:Hid (X=(Xp,2)):=by show _=_;rw [qD.o,Z6 (fun h=>h8 h.2),ZX (by rw [JW.o];exact h9)]
      have UD:=HP.o.z
      have VD:=HP.o.Y8
      go_wp2_with (first|(go_at_call 118;refine (C9.o _ HP.o.YI).mono ?_;rintro e w' ⟨rfl,rfl⟩)|(with_reducible refine Yp 79 (.tmp 6) rfl ?_;refine Zl UD Tryz.underlying79 ?_)|(with_reducible refine ZY 79 (.tmp 2) (.tmp 122) rfl ?_;refine Zs VD ?_))
      exact Yt1
     have l9:decide ((b.length:Int)<(Z:Int))=false:=WN Zo
     obtain ⟨vs,U4,JO⟩:=WR (P:=Tryz.prog) Wn (some ⟨g,off,none⟩) b.length c (pos+4) Z hzl Zo TH
     have fy:∀ w,(Instr.slice 30 (.slice (some ⟨g,off,none⟩) b.length c) (some (.int .i64 ((pos:Int)+4))) (some (.int .i64 (Z:Int))) none).run Tryz.prog w = .ok (.slice vs (Z-(pos+4)) (c-(pos+4))) w:=U4
     obtain ⟨m,hm⟩:∃ m:Nat,m=Z-(pos+4):=⟨_,rfl⟩
     obtain ⟨c',MP⟩:∃ m:Nat,m=c-(pos+4):=⟨_,rfl⟩
     have Dl:((b.drop (pos+4)).take (Z-(pos+4))).length=m:=by rw [TU,RU,hm];omega
     have pZ:Hid (∀ w',Below w w w'→Yf w' (.slice vs m c') m (Sr ((b.drop (pos+4)).take (Z-(pos+4))))):=fun w' h=>by
      have h2:Yn w' _ _:=Pn Zo hzl JO (HV.o w' h)
      rw [←hm,←MP] at h2
      have h3:Yf w' _ _ _:=h2
      rw [←hm] at Dl
      rw [Dl] at h3
      rw [hm];rw [hm] at h3;exact h3
     rw [←hm,←MP] at fy
     have HEB:Hid (PH b=(b.drop (pos+4)).take (Z-(pos+4))):=by show _=_;unfold PH;rw [ZX hex,JW.o,HKX.o,ZX hex]
     have lY:m≤512:=by omega
     generalize (b.drop (pos+4)).take (Z-(pos+4))=xb at *
     have wY:=Zh Dl
     clear U4 JO hm MP Dl
     have zc:=cell_of HP.o.Y8 6
     simp only [R9,R8,RT] at zc
     have fc:=ZI HP.o.Y8 6
     have Dz:=HP
     go_upto_region 30 with (go_at_call 118;refine (C9.o _ HP.o.YI).mono ?_;rintro e w' ⟨rfl,rfl⟩)
     have HP:Hid (PG w (wr.setCell ⟨w,6,none⟩ (.bool true)) (Qb mk (ty:Int) (sq:Int) (tm:Int) (sr:Int) a i q true 0 none 0 0 none 0 0 0)):=HP.o.set 6 (.bool true)
     have Tf:=Zh (RI Tf.o Dz.o.Y8 Zd 6 (.bool true))
     clear zc fc Dz
     generalize wr.setCell ⟨w,6,none⟩ (.bool true)=w7 at *
     have zc:=cell_of HP.o.Y8 7
     simp only [R9,R8,RT] at zc
     have fc:=ZI HP.o.Y8 7
     have Dz:=HP
     go_upto_region 31 with (go_at_call 118;refine (CF.o _ HP.o.YI).mono ?_;rintro e w' ⟨rfl,rfl⟩)
     have HP:Hid (PG w (w7.setCell ⟨w,7,none⟩ (.int .u16 (pf:Int))) (Qb mk (ty:Int) (sq:Int) (tm:Int) (sr:Int) a i q true (pf:Int) none 0 0 none 0 0 0)):=HP.o.set 7 (.int .u16 (pf:Int))
     have Tf:=Zh (RI Tf.o Dz.o.Y8 Zd 7 (.int .u16 (pf:Int)))
     clear zc fc Dz
     generalize w7.setCell ⟨w,7,none⟩ (.int .u16 (pf:Int))=w8 at *
     have HBR8:=Zh (pZ.o w8 HP.o.YI)
     go_wp2_with (at_builtin;refine Re rfl (.const (.slice none 0 0)) (.tmp 136) 30 rfl w.heap.size Wn (.slice none 0 0) 0 [] rfl (Us _ _ _ _) (.slice vs m c') m (Sr xb) rfl HBR8.o (by rw [XI,wY.o,Nat.mul_one]) (DW _) Zo Zo HP.o.YI.size (fun v9 w9 qo HG9=>?_);obtain ⟨ea,ec,iZ⟩:=Row.form (Row.ZV qo.o);subst iZ;have d_:=Zh (Kb HG9.o);have qw:=Zh (HP.o.below d_.o);have gw:=Zh (Row.below Tf.o d_.o);have zc:=cell_of qw.o.Y8 8;simp only [R9,R8,RT] at zc;have fc:=ZI qw.o.Y8 8)
     go_meet
     refine ⟨true,pf,.slice ea m ec,by rw [JW.o],by rw [JW.o];omega,fun h=>h8 h.2,(Ws hex).symm,by rw [ZX hex,HPF.o],qw.o.set 8 (.slice ea m ec),RI gw.o qw.o.Y8 Zd 8 _,?_⟩
     rw [HEB.o,wY.o]
     have h:=Row.ZV qo.o
     rw [OD,KF] at h
     exact RI h qw.o.Y8 Zd 8 _
   case rest=>
    clear OI E0 Tf Fx p1 d0 d1
    obtain ⟨hx,pf,ev,jG,sf,hnx,hhx,jz,Fp,Fz,fw⟩:=hcut
    obtain ⟨WC,rfl⟩:∃ W:World,W=wc:=⟨_,rfl⟩
    subst jG
    obtain ⟨xa,xc,rfl⟩:=Row.form fw
    have HP:=Zh Fp
    have Tf:=Zh Fz
    have eG:=Zh fw
    have HXF:Hid (hx=decide (at8 b 0 / 16 % 2=1)∧pf=if at8 b 0 / 16 % 2=1 then get b (pos:Int) 2 else 0):=⟨hhx,jz⟩
    have gH:Hid (X=if at8 b 0 / 32 % 2=1∧(Xq b=b.length∨at8 b (b.length-1)=0∨b.length-Xq b<at8 b (b.length-1)) then (Xp,1) else if at8 b 0 / 32 % 2=1∧¬(((b.drop (b.length-at8 b (b.length-1))).take (at8 b (b.length-1)-1)).all (fun x=>decide (x=0))=true) then (Xp,1) else (Un b (UN b,Xq b,b.length-TZ b),0)):=by show _=_;rw [qD.o,Z6 hnx,Z6 Zo]
    obtain ⟨la,cQ⟩:∃ x:Nat,x=at8 b (b.length-1):=⟨_,rfl⟩
    obtain ⟨A,hA⟩:∃ x:Nat,x=Xq b:=⟨_,rfl⟩
    have hlaR:la<256:=by rw [cQ];exact XM b _
    obtain ⟨d0,d1⟩:=kq.o WC HP.o.YI
    have Bo:WC.cell? ⟨g,off+(b.length-1),none⟩=some (.int .u8 (la:Int)):=by rw [cQ];exact HD.o WC HP.o.YI _ Zo
    obtain ⟨y,hy⟩:∃ y:Nat,y=x0 / 32:=⟨_,rfl⟩
    have p1:IntKind.u8.wrap ((x0:Int) / 32)=(y:Int):=by rw [IntKind.wrap_u8];omega
    have HYY:Hid ((y % 2=1)↔at8 b 0 / 32 % 2=1):=by show _↔_;rw [hy,HH.o.2.2.2.1]
    rw [←cQ,←hA] at gH
    rw [←hA] at sf ⊢
    clear Fp Fz fw hhx jz hnx hy qD
    obtain ⟨L1,hL1⟩:∃ x:Nat,x=b.length-1:=⟨_,rfl⟩
    obtain ⟨D,hD⟩:∃ x:Nat,x=b.length-A:=⟨_,rfl⟩
    have Lb:Hid (L1=b.length-1∧D=b.length-A∧la=at8 b (b.length-1)∧A=Xq b):=⟨hL1,hD,cQ,hA⟩
    have XS:b.length≤512:=by omega
    have Zj:1≤b.length:=by omega
    rw [←hL1] at Bo
    have s1:IntKind.i64.wrap ((b.length:Int)-1)=(L1:Int):=by rw [Ua _ Zo];omega
    have s2:IntKind.i64.wrap (la:Int)=(la:Int):=Ua _ Zo
    have s3:IntKind.i64.wrap ((b.length:Int)-(A:Int))=(D:Int):=by rw [Ua _ Zo];omega
    have i8:(L1:Int)<(b.length:Int):=by omega
    have i9:(0:Int)≤(L1:Int):=yF L1
    have i7:L1<b.length:=by omega
    have hDL:D≤b.length:=by omega
    clear hL1 hD cQ hA
    go_upto_if 150 with fail
    go_cut [10] (fun s10 wx=>s10 = .int .i64 ((b.length-TZ b:Nat):Int)∧A≤b.length-TZ b∧(TZ b≤255∧TZ b≤b.length)∧X=(Un b (UN b,A,b.length-TZ b),0)∧PG w wx (Qb mk (ty:Int) (sq:Int) (tm:Int) (sr:Int) a i q hx (pf:Int) xa (PH b).length xc none 0 0 ((TZ b:Nat):Int))∧Row wx 66 (.slice a i q) i (Zb (Ba b i))∧Row wx 5 (.slice xa (PH b).length xc) (PH b).length (Sr (PH b)))
    case first=>
     by_cases rK:at8 b 0 / 32 % 2=1
     rotate_left
     ·have d9:((y:Int).tmod 2 == 1)=false:=by rw [WT,Int.tmod_eq_emod_of_nonneg Zo];intro h;exact rK (HYY.o.1 Zo)
      have d9c:((y:Int) % 2 == 1)=false:=by rw [WT];intro h;exact rK (HYY.o.1 Zo)
      have d9d:((x0:Int) / 32 % 2 == 1)=false:=by rw [WT];intro h;have:=HH.o.2.2.2.1;exact rK Zo
      have hp0:TZ b=0:=Z6 rK
      go_wp2_with fail
      go_meet
      rw [hp0,Nat.sub_zero]
      exact ⟨rfl,sf,⟨by decide,TS _⟩,by rw [gH.o,Z6 (fun h=>rK h.1),Z6 (fun h=>rK h.1),hp0,Nat.sub_zero],HP.o,Tf.o,eG.o⟩
     have d9:((y:Int).tmod 2 == 1)=true:=by rw [beq_iff_eq,Int.tmod_eq_emod_of_nonneg Zo];have:=HYY.o.2 rK;omega
     have d9c:((y:Int) % 2 == 1)=true:=by rw [beq_iff_eq];have:=HYY.o.2 rK;omega
     have d9d:((x0:Int) / 32 % 2 == 1)=true:=by rw [beq_iff_eq];have:=HH.o.2.2.2.1;omega
     have TI:TZ b=la:=by unfold TZ;rw [ZX rK,Lb.o.2.2.1]
     by_cases OO:A=b.length∨la=0∨b.length-A<la
     ·rcases (show A=b.length∨(¬A=b.length∧la=0)∨(¬A=b.length∧¬la=0∧D<la) by have:=Lb.o.2.1;omega) with hq1|⟨hq1,vI⟩|⟨hq1,vI,jA⟩
      case' inl=>have e1:((A:Int) == (b.length:Int))=true:=by rw [beq_iff_eq];omega
      case' inr.inl=>have e1:((A:Int) == (b.length:Int))=false:=by rw [WT];omega
      case' inr.inl=>have e2:((la:Int) == 0)=true:=by rw [beq_iff_eq];omega
      case' inr.inr=>have e1:((A:Int) == (b.length:Int))=false:=by rw [WT];omega
      case' inr.inr=>have e2:((la:Int) == 0)=false:=by rw [WT];omega
      case' inr.inr=>have e3:decide ((D:Int)<(la:Int))=true:=Ws Zo
      case' inr.inr=>have e3n:decide (D<la)=true:=Ws jA
      all_goals
       have SM:Hid (X=(Xp,1)):=by show _=_;rw [gH.o,ZX ⟨rK,OO⟩]
       have UD:=HP.o.z
       have VD:=HP.o.Y8
       go_wp2_with (first|(with_reducible refine Yp 79 (.tmp 6) rfl ?_;refine Zl UD Tryz.underlying79 ?_)|(with_reducible refine ZY 79 (.tmp 2) (.tmp 174) rfl ?_;refine Zs VD ?_))
       refine VR (v:= .tuple (Qy (Qb false 0 0 0 0 none 0 0 false 0 none 0 0 none 0 0 0) 0 0 1)) ?_ rfl ?_
       ·exact Vu (p:=2) (u:=3) (v:=4) (x:=5) Zr _ _ w.heap.size 79 (Qb false 0 0 0 0 none 0 0 false 0 none 0 0 none 0 0 0) (0,0) _ Zr (setRow_heap _ _ _ _ _ _ VD) Tryz.underlying79 rfl Zk
       first|exact Vj.o _ 1 HP.o.YI SM.o|(obtain ⟨⟨a,f,t,k1,k2⟩,k3⟩:=Vj.o _ 1 HP.o.YI SM.o;exact ⟨⟨a,⟨f,t,k1⟩,k2⟩,k3⟩)
     have HX7:Hid (X=if ¬(((b.drop (b.length-la)).take (la-1)).all (fun x=>decide (x=0))=true) then (Xp,1) else (Un b (UN b,A,b.length-TZ b),0)):=by
      show _=_
      rw [gH.o,Z6 (fun h=>OO h.2)]
      simp only [rK,true_and]
     have e1:((A:Int) == (b.length:Int))=false:=by rw [WT];omega
     have e2:((la:Int) == 0)=false:=by rw [WT];omega
     have e3:decide ((D:Int)<(la:Int))=false:=WN (by have:=Lb.o.2.1;omega)
     have e3n:decide (D<la)=false:=WN (by have:=Lb.o.2.1;omega)
     have hla1:1≤la:=by omega
     obtain ⟨E,hE⟩:∃ x:Nat,x=b.length-la:=⟨_,rfl⟩
     have s4:IntKind.i64.wrap ((b.length:Int)-(la:Int))=(E:Int):=by rw [Ua _ Zo];omega
     have eW:A≤E:=by have:=Lb.o.2.1;omega
     have lG:E≤L1:=by have:=Lb.o.1;omega
     obtain ⟨zv,U4,JO⟩:=WR (P:=Tryz.prog) Wn (some ⟨g,off,none⟩) b.length c E L1 lG Zo TH
     have fy:∀ w,(Instr.slice 30 (.slice (some ⟨g,off,none⟩) b.length c) (some (.int .i64 (E:Int))) (some (.int .i64 (L1:Int))) none).run Tryz.prog w = .ok (.slice zv (L1-E) (c-E)) w:=U4
     obtain ⟨m,hm⟩:∃ m:Nat,m=L1-E:=⟨_,rfl⟩
     obtain ⟨c',MP⟩:∃ m:Nat,m=c-E:=⟨_,rfl⟩
     have Dl:((b.drop E).take (L1-E)).length=m:=by rw [TU,RU,hm];omega
     have pZ:Hid (∀ w',Below w w w'→Yn w' (.slice zv m c') ((b.drop E).take (L1-E))):=fun w' h=>by
      have h2:Yn w' _ _:=Pn Zo lG JO (HV.o w' h)
      rw [←hm,←MP] at h2
      rw [←hm] at Dl ⊢
      exact h2
     have uD:Hid (X=if ¬(((b.drop E).take (L1-E)).all (fun x=>decide (x=0))=true) then (Xp,1) else (Un b (UN b,A,b.length-TZ b),0)):=by
      show _=_
      rw [HX7.o,hE,show L1-(b.length-la)=la-1 by have:=Lb.o.1;omega]
     rw [←hm,←MP] at fy
     have lY:m≤512:=by omega
     generalize (b.drop E).take (L1-E)=zb at *
     have wY:=Zh Dl
     have yq:Hid (E=b.length-TZ b∧TZ b=la):=⟨by rw [hE,TI],TI⟩
     clear U4 JO hm MP Dl HX7 OO hE TI
     have zc:=cell_of HP.o.Y8 10
     simp only [R9,R8,RT] at zc
     have fc:=ZI HP.o.Y8 10
     go_upto_region 38 with fail
     have Tf:=Zh (RI Tf.o HP.o.Y8 Zd 10 (.int .i64 (la:Int)))
     have eG:=Zh (RI eG.o HP.o.Y8 Zd 10 (.int .i64 (la:Int)))
     have HP:Hid (PG w (WC.setCell ⟨w,10,none⟩ (.int .i64 (la:Int))) (Qb mk (ty:Int) (sq:Int) (tm:Int) (sr:Int) a i q hx (pf:Int) xa (PH b).length xc none 0 0 (la:Int))):=HP.o.set 10 (.int .i64 (la:Int))
     clear zc fc
     generalize WC.setCell ⟨w,10,none⟩ (.int .i64 (la:Int))=w8 at *
     have zc:=cell_of HP.o.Y8 10
     simp only [R9,R8,RT] at zc
     go_wp2_with fail
     clear zc
     go_loopw [193] (fun kf w'=>∃ j:Nat,j≤m∧kf = .int .i64 (j:Int)∧w'=w8∧(zb.take j).all (fun x=>decide (x=0))=true) (fun kf _=>m-(intOf kf).toNat)
     case atStart=>exact ⟨0,Zo,rfl,rfl,by rw [List.take_zero];rfl⟩
     case round=>
      obtain ⟨j,hj,rfl,hwr,Vc⟩:=hrel
      subst hwr
      by_cases Bu:j<m
      rotate_left
      ·have vB:zb.take j=zb:=I8 (by rw [wY.o];omega)
       rw [vB] at Vc
       have HFA:Hid (X=(Un b (UN b,A,b.length-TZ b),0)):=by show _=_;rw [uD.o,Z6 (fun h=>h Vc)]
       have hjm2:j=m:=by omega
       subst hjm2
       clear Vc vB
       go_wp2_with fail
       go_meet
       exact ⟨by rw [yq.o.1],by rw [←yq.o.1];exact eW,⟨by rw [yq.o.2];omega,by rw [yq.o.2];have:=of_decide_eq_false e3n;omega⟩,HFA.o,by rw [yq.o.2];exact HP.o,Tf.o,eG.o⟩
      obtain ⟨g3,dO,cap3,e4,_,_,pN⟩:=SC (pZ.o wr HP.o.YI) (by rw [wY.o];omega)
      rw [wY.o] at e4
      cases e4
      have fD:=pN j (by rw [wY.o];exact Bu)
      have fk:(j:Int)<(m:Int):=Gs.2 Bu
      have hzj:zb[j]?=some (zb[j]'(by rw [wY.o];exact Bu)):=VQ _
      have dN:=Pr hzj
      have UO:at8 zb j=(zb[j]'(by rw [wY.o];exact Bu)).toNat:=by unfold at8;rw [Sq,hzj];rfl
      generalize zb[j]'(by rw [wY.o];exact Bu)=zj at *
      obtain ⟨u,hu⟩:∃ u:Nat,u=at8 zb j:=⟨_,rfl⟩
      rw [←hu] at fD UO
      have ai:Hid (u=zj.toNat∧zb.take (j+1)=zb.take j++[zj]∧(zb.take j).all (fun x=>decide (x=0))=true):=⟨UO,dN,Vc⟩
      clear pN hzj dN UO hu Vc
      by_cases hu0:u=0
      rotate_left
      ·have e5:((u:Int) != 0)=true:=by rw [TF];omega
       have SM:Hid (X=(Xp,1)):=by show _=_;rw [uD.o,ZX (fun h=>by have h2:=List.all_eq_true.1 h zj (by have e:zj∈zb.take (j+1):=(by rw [ai.o.2.1];simp);exact List.mem_of_mem_take e);exact hu0 (by rw [ai.o.1];have h3:=of_decide_eq_true h2;rw [h3];rfl))]
       have UD:=HP.o.z
       have VD:=HP.o.Y8
       go_wp2_with (first|(with_reducible refine Yp 79 (.tmp 6) rfl ?_;refine Zl UD Tryz.underlying79 ?_)|(with_reducible refine ZY 79 (.tmp 2) (.tmp 199) rfl ?_;refine Zs VD ?_))
       refine VR (v:= .tuple (Qy (Qb false 0 0 0 0 none 0 0 false 0 none 0 0 none 0 0 0) 0 0 1)) ?_ rfl ?_
       ·exact aA
       first|exact Vj.o _ 1 HP.o.YI SM.o|(obtain ⟨⟨a,f,t,k1,k2⟩,k3⟩:=Vj.o _ 1 HP.o.YI SM.o;exact ⟨⟨a,⟨f,t,k1⟩,k2⟩,k3⟩)
      have e5:((u:Int) != 0)=false:=by rw [bne_eq_false_iff_eq];omega
      have HU0:Hid (zj=0):=UInt8.toNat_inj.1 (by rw [←ai.o.1,hu0];rfl)
      clear hu0
      go_wp2_with fail
      go_roundw
      case rel=>exact ⟨j+1,Zo,Zn,by first|rfl|trivial,by rw [ai.o.2.1,List.all_append,ai.o.2.2,HU0.o];rfl⟩
      case measure=>simp [intOf];omega
    case rest=>
     obtain ⟨hs10,eW,⟨hp255,hplb⟩,hXF,Fp,Fz,fw⟩:=hcut
     obtain ⟨WD,rfl⟩:∃ W:World,W=wc:=⟨_,rfl⟩
     subst hs10
     obtain ⟨E,hE⟩:∃ x:Nat,x=b.length-TZ b:=⟨_,rfl⟩
     rw [←hE] at eW hXF ⊢
     have lG:E≤b.length:=by omega
     have yq:Hid ((b.length:Int)-(E:Int)=((TZ b:Nat):Int)):=by show _=_;omega
     have HP:=Zh Fp
     have Tf:=Zh Fz
     have eG:=Zh fw
     have HXF2:=Zh hXF
     obtain ⟨zv,U4,JO⟩:=WR (P:=Tryz.prog) Wn (some ⟨g,off,none⟩) b.length c A E eW lG TH
     have fy:∀ w,(Instr.slice 30 (.slice (some ⟨g,off,none⟩) b.length c) (some (.int .i64 (A:Int))) (some (.int .i64 (E:Int))) none).run Tryz.prog w = .ok (.slice zv (E-A) (c-A)) w:=U4
     obtain ⟨m,hm⟩:∃ m:Nat,m=E-A:=⟨_,rfl⟩
     obtain ⟨c',MP⟩:∃ m:Nat,m=c-A:=⟨_,rfl⟩
     have Dl:((b.drop A).take (E-A)).length=m:=by rw [TU,RU,hm];omega
     have pZ:Hid (Yf WD (.slice zv m c') m (Sr ((b.drop A).take (E-A)))):=by
      have h2:Yn WD _ _:=Pn lG eW JO (HV.o WD HP.o.YI)
      rw [←hm,←MP] at h2
      have h3:Yf WD _ _ _:=h2
      rw [←hm] at Dl ⊢
      rw [Dl] at h3
      exact h3
     have lY:m≤512:=by omega
     have Hh:Hid (Un b (UN b,A,E)=⟨mk,(ty:Int),(sq:Int),(tm:Int),(sr:Int),Ba b i,hx,(pf:Int),PH b,(b.drop A).take (E-A),((TZ b:Nat):Int)⟩):=by
      obtain ⟨g1,g2,g3,g4,g5⟩:=HH.o
      obtain ⟨g6,g7,g8⟩:=HM.o
      obtain ⟨g9,g10⟩:=HXF.o
      have f7:(if at8 b 0 / 16 % 2=1 then (get b ((UN b:Int)-4) 2:Int) else 0)=(pf:Int):=by
       rw [g10]
       by_cases h:at8 b 0 / 16 % 2=1
       ·rw [ZX h,ZX h,HKX.o,ZX h,show ((pos+4:Nat):Int)-4=(pos:Int) by omega]
       ·rw [Z6 h,Z6 h];rfl
      have f8:(if at8 b 0 / 16 % 2=1 then (b.drop (UN b)).take (A-UN b) else [])=PH b:=by unfold PH;rw [Lb.o.2.2.2]
      show Un b (UN b,A,E)=_
      have e:Un b (UN b,A,E)=⟨decide (128≤at8 b 1),((at8 b 1 % 128:Nat):Int),(get b 2 2:Nat),(get b 4 4:Nat),(get b 8 4:Nat),Ba b (at8 b 0 % 16),decide (at8 b 0 / 16 % 2=1),if at8 b 0 / 16 % 2=1 then (get b ((UN b:Int)-4) 2:Int) else 0,if at8 b 0 / 16 % 2=1 then (b.drop (UN b)).take (A-UN b) else [],(b.drop A).take (E-A),(b.length:Int)-(E:Int)⟩:=rfl
      rw [e,f7,f8,yq.o,←g1,←g2,←g3,←g9,←g4,←g5,←g6,←g7,←g8]
     rw [←hm] at Hh
     rw [←hm] at pZ
     rw [←hm] at Dl
     generalize (b.drop A).take m=xb at *
     rw [←hm,←MP] at fy
     have wY:=Zh Dl
     clear U4 JO hm MP Dl hE Fp Fz fw hXF eW
     go_wp2_with (first|(at_builtin;refine Re rfl (.const (.slice none 0 0)) (.tmp 204) 30 rfl w.heap.size Wn (.slice none 0 0) 0 [] rfl (Us _ _ _ _) (.slice zv m c') m (Sr xb) rfl pZ.o (by rw [XI,wY.o,Nat.mul_one]) (DW _) Zo Zo HP.o.YI.size (fun v9 w9 qo HG9=>?_);obtain ⟨ea,ec,iZ⟩:=Row.form (Row.ZV qo.o);subst iZ;have d_:=Zh (Kb HG9.o);have qw:=Zh (HP.o.below d_.o);have gw:=Zh (Row.below Tf.o d_.o);have HRE9:=Zh (Row.below eG.o d_.o);have zc:=cell_of qw.o.Y8 9;simp only [R9,R8,RT] at zc;have fc:=ZI qw.o.Y8 9;have VD:(w9.setCell ⟨w,9,none⟩ (.slice ea m ec)).heap[w.heap.size]?=some (.cells (Qb mk (ty:Int) (sq:Int) (tm:Int) (sr:Int) a i q hx (pf:Int) xa (PH b).length xc ea m ec ((TZ b:Nat):Int)) 79 (0,0)):=(qw.o.set 9 (.slice ea m ec)).Y8)|(with_reducible refine Yp 79 (.tmp 2) rfl ?_;refine Zl VD Tryz.underlying79 ?_)|(with_reducible refine ZY 79 (.tmp 2) (.tmp 207) rfl ?_;refine Zs VD ?_))
     refine VR (v:= .tuple (Qy (Qb mk (ty:Int) (sq:Int) (tm:Int) (sr:Int) a i q hx (pf:Int) xa (PH b).length xc ea m ec ((TZ b:Nat):Int)) (A:Int) (E:Int) 0)) ?_ rfl ?_
     ·exact Vu (p:=2) (u:=3) (v:=4) (x:=5) Zr _ _ w.heap.size 79 (Qb mk (ty:Int) (sq:Int) (tm:Int) (sr:Int) a i q hx (pf:Int) xa (PH b).length xc ea m ec ((TZ b:Nat):Int)) (0,0) _ Zr (setRow_heap _ _ _ _ _ _ VD) Tryz.underlying79 rfl Zk
     have jg:OW ((w9.setCell ⟨w,9,none⟩ (.slice ea m ec)).setRow w.heap.size (Qb mk (ty:Int) (sq:Int) (tm:Int) (sr:Int) a i q hx (pf:Int) xa (PH b).length xc ea m ec ((TZ b:Nat):Int))) (.agg (Qb mk (ty:Int) (sq:Int) (tm:Int) (sr:Int) a i q hx (pf:Int) xa (PH b).length xc ea m ec ((TZ b:Nat):Int))) X.1∧X.2=0∧Below w w ((w9.setCell ⟨w,9,none⟩ (.slice ea m ec)).setRow w.heap.size (Qb mk (ty:Int) (sq:Int) (tm:Int) (sr:Int) a i q hx (pf:Int) xa (PH b).length xc ea m ec ((TZ b:Nat):Int))):=by
      rw [HXF2.o,Hh.o]
      have h:=Row.ZV qo.o
      rw [OD,KF,←wY.o] at h
      have MQ:(Ba b i).length=i:=by unfold Ba;rw [UM,List.length_range]
      have hc9:Row w9 66 (.slice a (Ba b i).length q) (Ba b i).length (Zb (Ba b i)):=by rw [MQ];exact gw.o
      have sr:∀ {e:TypeId} {v:Value} {n:Nat} {xs:List Value},79≠e→Row w9 e v n xs→Row ((w9.setCell ⟨w,9,none⟩ (.slice ea m ec)).setRow w.heap.size (Qb mk (ty:Int) (sq:Int) (tm:Int) (sr:Int) a i q hx (pf:Int) xa (PH b).length xc ea m ec ((TZ b:Nat):Int))) e v n xs:=fun he hr=>Row.setRow (RI hr qw.o.Y8 he 9 _) VD (fun e=>he e.symm) _
      refine ⟨⟨_,_,_,?_,sr Zd hc9,sr Zd HRE9.o,sr Zd h⟩,rfl,Z0 (qw.o.set 9 (.slice ea m ec)).YI (ZB _) _⟩
      unfold IB
      rw [MQ,wY.o]
     obtain ⟨k1,k2,k3⟩:=jg
     rw [k2]
     first|exact ⟨⟨_,_,_,rfl,k1⟩,k3⟩|exact ⟨⟨_,⟨_,_,rfl⟩,k1⟩,k3⟩):p:=h
theorem tF (v:Value) (b:List UInt8) (w:World) (hv:Yn w v b) (vD:at8 b 1<192) :
  Calls Tryz.prog 94 #[v] w fun e w'=>(∃ a f t,e = .returned (.tuple #[a,.int .i64 f,.int .i64 t,.int .i64 (YY b).2])∧OW w' a (YY b).1)∧Below w w w':=B6
theorem tE (v:Value) (b:List UInt8) (w:World) (hv:Yn w v b) (vD:192≤at8 b 1) :
  Calls Tryz.prog 94 #[v] w fun e w'=>(∃ a f t,e = .returned (.tuple #[a,.int .i64 f,.int .i64 t,.int .i64 (YY b).2])∧OW w' a (YY b).1)∧Below w w w':=B6
theorem wj (v:Value) (b:List UInt8) (w:World) (hv:Yn w v b) :
  Calls Tryz.prog 94 #[v] w fun e w'=>(∃ a f t,e = .returned (.tuple #[a,.int .i64 f,.int .i64 t,.int .i64 (YY b).2])∧OW w' a (YY b).1)∧Below w w w':=by
 by_cases h:at8 b 1<192
 ·exact tF v b w hv h
 ·exact tE v b w hv Zo
end Go.Proofs.By
