/- Part of a proof. -/
import Derived.Test.YtpdjhlcbcomdkaaGreatDoorW28
set_option linter.unusedVariables false
set_option linter.unusedSimpArgs false
set_option maxRecDepth 100000
set_option maxHeartbeats 16000000
open Go Go.Q Go.Qr
namespace Go.Proofs.By
open Go.RowKit Go.Proofs.Heap Go.Proofs
open Go.Proofs.Rm (below_drewN YO)
theorem UU {P:Program} {fn:Func} {p u v x:Tmp} {ty:TypeId} (h:fn.results=#[.cell p ty,.tmp u,.tmp v,.tmp x]) (tmps:Array Value) (w:World) (g:Nat) (t:TypeId) (cs:Array Value) (fr:Nat × Nat) (d:TypeDesc)
  (hp:tmps.getD p undef = .pointer (some ⟨g,0,none⟩)) (hg:w.heap[g]?=some (.cells cs t fr))
  (hu:P.underlying ty=some d) (hd:(match d with | .struct _ | .array _ _=>true|_=>false)=true) (hi:(P.info? ty).map (·.size)=some cs.size) :
  (results fn tmps).run P w = .ok (.tuple #[.agg cs,tmps.getD u undef,tmps.getD v undef,tmps.getD x undef]) w:=by
 exact Yt6
structure PG (w w':World) (cs:List Value):Prop where
 Zj:Below w w w'
 z:w'.heap[w.heap.size+1]?=some (.cells (Qb false 0 0 0 0 none 0 0 false 0 none 0 0 none 0 0 0) 79 (0,0))
 Za:w'.heap[w.heap.size]?=some (.cells cs.toArray 79 (0,0))
section
variable {w w1 w2:World} {cs:List Value}
theorem PG.below (h:PG w w1 cs) (hb:Below w1 w1 w2):PG w w2 cs:=⟨h.Zj.trans (hb.mono h.Zj.size),(hb.block _ (ZV h.z)).trans h.z,(hb.block _ (ZV h.Za)).trans h.Za⟩
theorem PG.set (h:PG w w1 cs) (j:Nat) (u:Value):PG w (w1.setCell ⟨w,j,none⟩ u) (cs.set j u):=by
 have h2:=VM h.Za j u
 rw [List.setIfInBounds_toArray] at h2
 exact ⟨((Fr.Z8 P_ h.Zj).setCell (p:=⟨w,j,none⟩) (Ww (Zw _)) _).below,(MW w1 ⟨w,j,none⟩ u (w.heap.size+1) (by show w.heap.size+1≠w.heap.size;omega)).trans h.z,h2⟩
theorem PG.grown (h:PG w w1 cs) {e:TypeId} {size:Nat} {v:Value} {n:Nat} {xs:List Value} (ho:w1.ownsRow w e size v n xs) (he:79≠e) (hg:w1.grownBy w2 v.ownBlock):PG w w2 cs:=
 ⟨((Fr.Z8 P_ h.Zj).grown hg h.Zj.size (Rm.YL ho)).below,(hg.block _ (ZV h.z) (fun x=>Zf ho he _ _ _ x.symm h.z)).trans h.z,(hg.block _ (ZV h.Za) (fun x=>Zf ho he _ _ _ x.symm h.Za)).trans h.Za⟩
theorem PG.start (w:World):PG w (((w.alloc (.cells (Qb false 0 0 0 0 none 0 0 false 0 none 0 0 none 0 0 0) 79)).alloc (.cells (Qb false 0 0 0 0 none 0 0 false 0 none 0 0 none 0 0 0) 79)).setRow (w.heap.size+1) (Qb false 0 0 0 0 none 0 0 false 0 none 0 0 none 0 0 0)) (Qb false 0 0 0 0 none 0 0 false 0 none 0 0 none 0 0 0)∧((w.alloc (.cells (Qb false 0 0 0 0 none 0 0 false 0 none 0 0 none 0 0 0) 79)).alloc (.cells (Qb false 0 0 0 0 none 0 0 false 0 none 0 0 none 0 0 0) 79)).heap[w.heap.size+1]?=some (.cells (Qb false 0 0 0 0 none 0 0 false 0 none 0 0 none 0 0 0) 79 (0,0)):=by
 have e1:(w.alloc (.cells (Qb false 0 0 0 0 none 0 0 false 0 none 0 0 none 0 0 0) 79)).heap.size=w.heap.size+1:=by show (w.heap.push _).size=_;rw [O6]
 have hz:((w.alloc (.cells (Qb false 0 0 0 0 none 0 0 false 0 none 0 0 none 0 0 0) 79)).alloc (.cells (Qb false 0 0 0 0 none 0 0 false 0 none 0 0 none 0 0 0) 79)).heap[w.heap.size+1]?=some (.cells (Qb false 0 0 0 0 none 0 0 false 0 none 0 0 none 0 0 0) 79 (0,0)):=by
  have h:=Z7 (w.alloc (.cells (Qb false 0 0 0 0 none 0 0 false 0 none 0 0 none 0 0 0) 79)) (.cells (Qb false 0 0 0 0 none 0 0 false 0 none 0 0 none 0 0 0) 79)
  rw [e1] at h
  exact h
 refine ⟨⟨Z3 (ZC (Z' w _) (Zw _) _) (IP _) _,setRow_heap _ _ _ _ _ _ hz,?_⟩,hz⟩
 rw [setRow_other _ _ _ _ Zo,(Z' (w.alloc (.cells (Qb false 0 0 0 0 none 0 0 false 0 none 0 0 none 0 0 0) 79)) _).block _ (by rw [e1];omega)]
 exact Z7 w _
end
def zT (b:List UInt8) (n:Nat):List Int:=(List.range n).map fun (i:Nat)=>((get b (12+4*(i:Int)) 4:Nat):Int)
theorem tS {w:World} {B:Nat} {e:TypeId} {size:Nat} {v:Value} {n:Nat} {xs:List Value} (h:w.ownsRow B e size v n xs) {g:Nat} {c:Array Value} {f:Nat × Nat} (hg:w.heap[g]?=some (.cells c 79 f)) (he:79≠e) (o:Nat) (u:Value):(w.setCell ⟨g,o,none⟩ u).ownsRow B e size v n xs:=
 XS h fun j hj=>by
  by_cases hjg:j=g
  ·subst hjg;exact absurd hg (Zf h he _ _ _ hj)
  ·exact MW w ⟨g,o,none⟩ _ j hjg
def Pj (b:List UInt8):List UInt8:=if at8 b 0 / 16 % 2=1 then (b.drop (Uk b)).take (WV b-Uk b) else []
theorem JJ {w w':World} (hg:w.grownBy w' (Value.slice none 0 0).ownBlock):Below w w w':=(YH _ _).grown hg (Zw _) (fun k hk=>by cases hk)
theorem Ro {w:World} {e:TypeId} {v:Value} {n:Nat} {xs:List Value} (h:Row w e v n xs) {g:Nat} {c:Array Value} {f:Nat × Nat} (hg:w.heap[g]?=some (.cells c 79 f)) (he:79≠e) (o:Nat) (u:Value):Row (w.setCell ⟨g,o,none⟩ u) e v n xs:=
 Row.fr h ((Fr.refl w.heap.size (· = g) w).setAt o u) (Zw _) (fun k c' fr hk hc=>by
  have hk:k=g:=hk
  rw [hk,hg] at hc
  injection hc with hc
  injection hc with _ hc
  exact he hc)
theorem Hk (w:World):Oe w (.agg (Qb false 0 0 0 0 none 0 0 false 0 none 0 0 none 0 0 0)) WU:=⟨_,_,_,rfl,Row.nil _ _,Row.nil _ _,Row.nil _ _⟩
set_option maxRecDepth 1000000 in
theorem AY {p:Prop} (h:p:=by
 have CR:=Zh (fun (p q:Int) (w':World) (h:Below w w w')=>Rz v b p q w' (hv.below h))
 have HX:Hid (YM b=Dv b):=x9 b
 have HV:Hid (∀ w',Below w w w'→X9 w' v b):=fun w' h=>hv.below h
 obtain ⟨⟨W9,hzz,mg⟩,hz⟩:=PG.start w
 have HP:Hid (PG w (((w.alloc (.cells (Qb false 0 0 0 0 none 0 0 false 0 none 0 0 none 0 0 0) 79)).alloc (.cells (Qb false 0 0 0 0 none 0 0 false 0 none 0 0 none 0 0 0) 79)).setRow (w.heap.size+1) (Qb false 0 0 0 0 none 0 0 false 0 none 0 0 none 0 0 0)) (Qb false 0 0 0 0 none 0 0 false 0 none 0 0 none 0 0 0)):=⟨W9,hzz,mg⟩
 have UL:Hid (∀ w2 er,Below w w w2→YM b=(WU,er)→(∃ a f t,Ending.returned (.tuple (Qx (Qb false 0 0 0 0 none 0 0 false 0 none 0 0 none 0 0 0) 0 0 er)) = .returned (.tuple #[a,.int .i64 f,.int .i64 t,.int .i64 (YM b).2])∧Oe (w2.setRow w.heap.size (Qb false 0 0 0 0 none 0 0 false 0 none 0 0 none 0 0 0)) a (YM b).1)∧Below w w (w2.setRow w.heap.size (Qb false 0 0 0 0 none 0 0 false 0 none 0 0 none 0 0 0))):=fun w2 er h2 h3=>by
  rw [h3]
  exact ⟨⟨_,_,_,rfl,Hk _⟩,Z3 h2 (Zw _) _⟩
 obtain ⟨va,c,rfl,Sg,wR⟩:∃ a c,v = .slice a b.length c∧b.length≤c∧c≤maxLen:=by
  obtain ⟨a,c,h1,h2,h3,_⟩:=id hv
  exact ⟨a,c,h1,h2,h3⟩
 clear hv W9 hzz mg
 generalize YM b=X at *
 unfold Dv at HX
 go_enter Tryz.func94,Tryz.ntmps94
 go_upto_region 2 with ((with_reducible refine ZU 79 (.tmp 6) (.tmp 13) rfl ?_);refine Zs hz ?_)
 clear hz
 generalize ((w.alloc (.cells (Qb false 0 0 0 0 none 0 0 false 0 none 0 0 none 0 0 0) 79)).alloc (.cells (Qb false 0 0 0 0 none 0 0 false 0 none 0 0 none 0 0 0) 79)).setRow (w.heap.size+1) (Qb false 0 0 0 0 none 0 0 false 0 none 0 0 none 0 0 0)=w1 at *
 by_cases h1:512<b.length
 ·have l1:decide ((512:Int)<(b.length:Int))=true:=We Zo
  have Vs:Hid (X=(WU,5)):=by show _=_;rw [HX.o,ZQ h1]
  have Ub:=HP.o.z
  have UN:=HP.o.Za
  go_wp2_with (first|((with_reducible refine Y8 79 (.tmp 6) rfl ?_);refine Zl Ub Tryz.underlying79 ?_)|((with_reducible refine ZU 79 (.tmp 2) (.tmp 18) rfl ?_);refine Zs UN ?_))
  refine VJ (v:= .tuple (Qx (Qb false 0 0 0 0 none 0 0 false 0 none 0 0 none 0 0 0) 0 0 5)) ?_ rfl ?_
  ·exact Yt28
  first|exact UL.o _ 5 HP.o.Zj Vs.o|(obtain ⟨⟨a,f,t,k1,k2⟩,k3⟩:=UL.o _ 5 HP.o.Zj Vs.o;exact ⟨⟨a,⟨f,t,k1⟩,k2⟩,k3⟩)
 have l1:decide ((512:Int)<(b.length:Int))=false:=WB Zo
 by_cases h2:b.length<12
 ·have l2:decide ((b.length:Int)<12)=true:=We Zo
  have Vs:Hid (X=(WU,2)):=by show _=_;rw [HX.o,Z4 h1,ZQ h2]
  have Ub:=HP.o.z
  have UN:=HP.o.Za
  go_wp2_with (first|((with_reducible refine Y8 79 (.tmp 6) rfl ?_);refine Zl Ub Tryz.underlying79 ?_)|((with_reducible refine ZU 79 (.tmp 2) (.tmp 23) rfl ?_);refine Zs UN ?_))
  exact Yt2
 have l2:decide ((b.length:Int)<12)=false:=WB Zo
 rw [Z4 h1,Z4 h2] at HX
 obtain ⟨g,off,cap,e1,_,_,hc⟩:=R7 (HV.o w1 HP.o.Zj) Zo
 cases e1
 have d0:=hc 0 Zo
 have d1:=hc 1 Zo
 have HD:Hid (∀ w',Below w w w'→∀ j,j<b.length→w'.cell? ⟨g,off+j,none⟩=some (.int .u8 (at8 b j:Int))):=fun w' h j hj=>by
  obtain ⟨_,_,_,e,_,_,hc⟩:=R7 (HV.o w' h) Zo
  cases e
  exact hc j hj
 rw [gX] at d0
 have i0:(0:Int)<(b.length:Int):=by omega
 have i1:(1:Int)<(b.length:Int):=by omega
 have r0:=Xo b 0
 have r1:=Xo b 1
 clear hc
 obtain ⟨x0,QU⟩:∃ x,x=at8 b 0:=⟨_,rfl⟩
 obtain ⟨x1,S9⟩:∃ x,x=at8 b 1:=⟨_,rfl⟩
 have fM:Hid (∀ w',Below w w w'→w'.cell? ⟨g,off,none⟩=some (.int .u8 (x0:Int))∧w'.cell? ⟨g,off+1,none⟩=some (.int .u8 (x1:Int))):=fun w' h=>⟨by have k:=HD.o w' h 0 Zo;rw [gX,←QU] at k;exact k,by rw [S9];exact HD.o w' h 1 Zo⟩
 rw [←QU] at d0 r0
 rw [←S9] at d1 r1
 by_cases h3:x0<128∨191<x0
 ·by_cases h3a:x0<128
  case' pos=>have q3:decide ((x0:Int)<128)=true:=We Zo
  case' neg=>have q3:decide ((x0:Int)<128)=false:=WB Zo;have q4:decide ((191:Int)<(x0:Int))=true:=We Zo
  all_goals
   have Vs:Hid (X=(WU,1)):=by show _=_;rw [HX.o,ZQ (by rw [←QU];exact h3)]
   have Ub:=HP.o.z
   have UN:=HP.o.Za
   go_wp2_with (first|((with_reducible refine Y8 79 (.tmp 6) rfl ?_);refine Zl Ub Tryz.underlying79 ?_)|((with_reducible refine ZU 79 (.tmp 2) (.tmp 35) rfl ?_);refine Zs UN ?_))
   refine VJ (v:= .tuple (Qx (Qb false 0 0 0 0 none 0 0 false 0 none 0 0 none 0 0 0) 0 0 1)) ?_ rfl ?_
   ·exact UU (p:=2) (u:=3) (v:=4) (x:=5) Zr _ _ w.heap.size 79 (Qb false 0 0 0 0 none 0 0 false 0 none 0 0 none 0 0 0) (0,0) _ Zr (setRow_heap _ _ _ _ _ _ UN) Tryz.underlying79 rfl Zk
   first|exact UL.o _ 1 HP.o.Zj Vs.o|(obtain ⟨⟨a,f,t,k1,k2⟩,k3⟩:=UL.o _ 1 HP.o.Zj Vs.o;exact ⟨⟨a,⟨f,t,k1⟩,k2⟩,k3⟩)
 have q3:decide ((x0:Int)<128)=false:=WB Zo
 have q4:decide ((191:Int)<(x0:Int))=false:=WB Zo
 rw [Z4 (by rw [←QU];exact h3)] at HX
 by_cases h4:192≤x1∧x1≤223
 ·try (exfalso;omega)
  all_goals
   have q5:decide ((192:Int)≤(x1:Int))=true:=We Zo
   have q6:decide ((x1:Int)≤223)=true:=We Zo
   have Vs:Hid (X=(WU,4)):=by show _=_;rw [HX.o,ZQ (by rw [←S9];exact h4)]
   have Ub:=HP.o.z
   have UN:=HP.o.Za
   go_wp2_with (first|((with_reducible refine Y8 79 (.tmp 6) rfl ?_);refine Zl Ub Tryz.underlying79 ?_)|((with_reducible refine ZU 79 (.tmp 2) (.tmp 47) rfl ?_);refine Zs UN ?_))
   refine VJ (v:= .tuple (Qx (Qb false 0 0 0 0 none 0 0 false 0 none 0 0 none 0 0 0) 0 0 4)) ?_ rfl ?_
   ·exact UU (p:=2) (u:=3) (v:=4) (x:=5) Zr _ _ w.heap.size 79 (Qb false 0 0 0 0 none 0 0 false 0 none 0 0 none 0 0 0) (0,0) _ Zr (setRow_heap _ _ _ _ _ _ UN) Tryz.underlying79 rfl Zk
   first|exact UL.o _ 4 HP.o.Zj Vs.o|(obtain ⟨⟨a,f,t,k1,k2⟩,k3⟩:=UL.o _ 4 HP.o.Zj Vs.o;exact ⟨⟨a,⟨f,t,k1⟩,k2⟩,k3⟩)
 rw [Z4 (by rw [←S9];exact h4)] at HX
 obtain ⟨sq,hsq⟩:∃ x:Nat,x=get b 2 2:=⟨_,rfl⟩
 obtain ⟨tm,eQ⟩:∃ x:Nat,x=get b 4 4:=⟨_,rfl⟩
 obtain ⟨sr,hsr⟩:∃ x:Nat,x=get b 8 4:=⟨_,rfl⟩
 have C2:=Zh (fun (w':World) (h:Below w w w')=>CR.o 2 2 w' h)
 have C4:=Zh (fun (w':World) (h:Below w w w')=>CR.o 4 4 w' h)
 have C8:=Zh (fun (w':World) (h:Below w w w')=>CR.o 8 4 w' h)
 rw [←hsq] at C2
 rw [←eQ] at C4
 rw [←hsr] at C8
 have bsq:IntKind.u16.wrap (sq:Int)=(sq:Int):=by have:=Nb b 2;rw [IntKind.wrap_u16];omega
 have btm:IntKind.u32.wrap (tm:Int)=(tm:Int):=by have:=WX b 4;rw [NW];omega
 have bsr:IntKind.u32.wrap (sr:Int)=(sr:Int):=by have:=WX b 8;rw [NW];omega
 have HH:Hid (sq=get b 2 2∧tm=get b 4 4∧sr=get b 8 4∧x0=at8 b 0∧x1=at8 b 1):=⟨hsq,eQ,hsr,QU,S9⟩
 obtain ⟨ty,Ip⟩:∃ x:Nat,x=x1 % 128:=⟨_,rfl⟩
 obtain ⟨mk,iI⟩:∃ x:Bool,x=decide (128≤x1):=⟨_,rfl⟩
 obtain ⟨cc,hcc2⟩:∃ x:Nat,x=x0 % 16:=⟨_,rfl⟩
 have p1:(x1:Int).tmod 128=(ty:Int):=by rw [Int.tmod_eq_emod_of_nonneg Zo];omega
 have p1c:(x1:Int) % 128=(ty:Int):=by omega
 have p1b:IntKind.i64.wrap (ty:Int)=(ty:Int):=Ty _ Zo
 have p2:decide ((128:Int)≤(x1:Int))=mk:=by rw [iI,Bool.eq_iff_iff,Oh,Oh];omega
 have p3:(x0:Int).tmod 16=(cc:Int):=by rw [Int.tmod_eq_emod_of_nonneg Zo];omega
 have p3c:(x0:Int) % 16=(cc:Int):=by omega
 have p3b:IntKind.i64.wrap (cc:Int)=(cc:Int):=Ty _ Zo
 have hcc16:cc<16:=by omega
 have HM:Hid (ty=x1 % 128∧mk=decide (128≤x1)∧cc=x0 % 16):=⟨Ip,iI,hcc2⟩
 have Fw:¬b.length<12:=h2
 have hb512:¬512<b.length:=h1
 first
 | (have q5:decide ((192:Int)≤(x1:Int))=false:=WB Zo)
 | (have q5:decide ((192:Int)≤(x1:Int))=true:=We Zo;have q6:decide ((x1:Int)≤223)=false:=WB Zo)
 clear hsq eQ hsr QU S9 Ip iI hcc2 h1 h2 h3 h4 sZ
 go_upto_region 10 with fail
 have zc:=cell_of HP.o.Za 1
 simp only [SK,S6,SJ] at zc
 have fc:=ZO HP.o.Za 1
 go_upto_region 11 with fail
 have HP:Hid (PG w (w1.setCell ⟨w,1,none⟩ (.int .i64 (ty:Int))) (Qb false (ty:Int) 0 0 0 none 0 0 false 0 none 0 0 none 0 0 0)):=HP.o.set 1 (.int .i64 (ty:Int))
 clear zc fc
 generalize w1.setCell ⟨w,1,none⟩ (.int .i64 (ty:Int))=w2 at *
 obtain ⟨d0,d1⟩:=fM.o w2 HP.o.Zj
 have zc:=cell_of HP.o.Za 0
 simp only [SK,S6,SJ] at zc
 have fc:=ZO HP.o.Za 0
 go_upto_region 12 with fail
 have HP:Hid (PG w (w2.setCell ⟨w,0,none⟩ (.bool mk)) (Qb mk (ty:Int) 0 0 0 none 0 0 false 0 none 0 0 none 0 0 0)):=HP.o.set 0 (.bool mk)
 clear zc fc
 generalize w2.setCell ⟨w,0,none⟩ (.bool mk)=w3 at *
 have zc:=cell_of HP.o.Za 2
 simp only [SK,S6,SJ] at zc
 have fc:=ZO HP.o.Za 2
 go_upto_region 13 with (go_at_call 118;refine (C2.o _ HP.o.Zj).mono ?_;rintro e w' ⟨rfl,rfl⟩)
 have HP:Hid (PG w (w3.setCell ⟨w,2,none⟩ (.int .u16 (sq:Int))) (Qb mk (ty:Int) (sq:Int) 0 0 none 0 0 false 0 none 0 0 none 0 0 0)):=HP.o.set 2 (.int .u16 (sq:Int))
 clear zc fc
 generalize w3.setCell ⟨w,2,none⟩ (.int .u16 (sq:Int))=w4 at *
 have zc:=cell_of HP.o.Za 3
 simp only [SK,S6,SJ] at zc
 have fc:=ZO HP.o.Za 3
 go_upto_region 14 with (go_at_call 118;refine (C4.o _ HP.o.Zj).mono ?_;rintro e w' ⟨rfl,rfl⟩)
 have HP:Hid (PG w (w4.setCell ⟨w,3,none⟩ (.int .u32 (tm:Int))) (Qb mk (ty:Int) (sq:Int) (tm:Int) 0 none 0 0 false 0 none 0 0 none 0 0 0)):=HP.o.set 3 (.int .u32 (tm:Int))
 clear zc fc
 generalize w4.setCell ⟨w,3,none⟩ (.int .u32 (tm:Int))=w5 at *
 have zc:=cell_of HP.o.Za 4
 simp only [SK,S6,SJ] at zc
 have fc:=ZO HP.o.Za 4
 go_upto_region 15 with (go_at_call 118;refine (C8.o _ HP.o.Zj).mono ?_;rintro e w' ⟨rfl,rfl⟩)
 have HP:Hid (PG w (w5.setCell ⟨w,4,none⟩ (.int .u32 (sr:Int))) (Qb mk (ty:Int) (sq:Int) (tm:Int) (sr:Int) none 0 0 false 0 none 0 0 none 0 0 0)):=HP.o.set 4 (.int .u32 (sr:Int))
 clear zc fc
 generalize w5.setCell ⟨w,4,none⟩ (.int .u32 (sr:Int))=w6 at *
 obtain ⟨d0,d1⟩:=fM.o w6 HP.o.Zj
 clear C2 C4 C8 bsq btm bsr p1 p1c p1b p2 q3 q4 q5
 go_wp2_with fail
 clear d0 d1 p3 p3c p3b
 go_loopw [7,8] (fun s7 s8 w'=>∃ (i pos k:Nat) (a:Option Addr) (q:Nat),i+k=cc∧pos=12+4*i∧pos≤b.length∧s7 = .int .i64 (pos:Int)∧s8 = .int .i64 (k:Int)∧PG w w' (Qb mk (ty:Int) (sq:Int) (tm:Int) (sr:Int) a i q false 0 none 0 0 none 0 0 0)∧w'.ownsRow w 66 1 (.slice a i q) i (YO (zT b i))) (fun _ s8 _=>(intOf s8).toNat)
 case atStart=>exact ⟨0,12,cc,none,0,Zo,Zo,Zo,rfl,rfl,HP.o,Ua _ _ _ _⟩
 case round=>
  obtain ⟨i,pos,k,a,q,hik,QQ,pB,rfl,rfl,Er,YJ⟩:=hrel
  have HP:=Zh Er
  have HO:=Zh YJ
  clear Er YJ
  by_cases iE:0<k
  ·have dk:decide ((0:Int)<(k:Int))=true:=We Zo
   have iO:IntKind.i64.wrap ((pos:Int)+4)=(pos:Int)+4:=Ty _ Zo
   by_cases h7:b.length<pos+4
   ·have l7:decide ((b.length:Int)<(pos:Int)+4)=true:=We Zo
    have Vs:Hid (X=(WU,2)):=by show _=_;rw [HX.o,ZQ (by have:=HM.o.2.2;have:=HH.o.2.2.2.1;omega)]
    have Ub:=HP.o.z
    have UN:=HP.o.Za
    go_wp2_with (first|((with_reducible refine Y8 79 (.tmp 6) rfl ?_);refine Zl Ub Tryz.underlying79 ?_)|((with_reducible refine ZU 79 (.tmp 2) (.tmp 85) rfl ?_);refine Zs UN ?_))
    exact Yt2
   have l7:decide ((b.length:Int)<(pos:Int)+4)=false:=WB Zo
   obtain ⟨y0,eW⟩:∃ x:Nat,x=get b (pos:Int) 4:=⟨_,rfl⟩
   have Mb:Hid (zT b (i+1)=zT b i++[(y0:Int)]):=by
    show _=_
    rw [eW,QQ]
    unfold zT
    rw [ru,N7]
    simp
   have C0:=Zh (fun (w':World) (h:Below w w w')=>CR.o (pos:Int) 4 w' h)
   rw [←eW] at C0
   have N9:IntKind.u32.wrap (y0:Int)=(y0:Int):=by have:=WX b (pos:Int);rw [NW];omega
   have hkm:IntKind.i64.wrap ((k:Int)-1)=((k-1:Nat):Int):=by rw [Ty _ Zo];omega
   have Ex:pos≤512:=by omega
   have N0:Hid (i+k=cc∧pos=12+4*i∧0<k∧pos+4≤b.length):=⟨hik,QQ,iE,Zo⟩
   have hi16:i≤16:=by omega
   clear QQ eW hik pB h7
   go_upto_region 21 with fail
   have HP:=Zh (HP.o.below (YH _ _).drew)
   have HO:=Zh (Yx HO.o (YH _ _).drew)
   have k0:(wr.drew).cell? ⟨w,5,none⟩=some (.slice a i q):=Zc HP.o.Za 5 rfl
   refine Sd ?_
   refine Z_.Zu (d:=9) (S:=(fun w'=>w'.cell? ⟨w,5,none⟩=some (.slice a i q))) Zk ?_ (fun X_=>?_)
   ·exact k0
   refine YP 0 (h:=YP 2 (h:=YP 3 (h:=YK 1 (h:=?_))))
   refine YR 4 (h:=fun K hK=>?_)
   go_simp
   refine (C0.o _ HP.o.Zj).mono ?_
   rintro e w' ⟨rfl,rfl⟩
   go_wp2_with fail
   refine Z_.Y_ hK _ _ ?_ (fun XC=>?_)
   ·exact k0
   clear hK K
   try simp only [Z_.pt]
   refine YP 5 (h:=?_)
   refine YR 6 (h:=fun K hK=>?_)
   refine Yo Zr Vu (.tmp 91) Zr (.int .u32 (y0:Int)) Zr rfl ?_
   have HP:=Zh (HP.o.below (Z' wr.drew (.cells #[.int .u32 (y0:Int)] 66)))
   have HO:=Zh (Yx HO.o (Z' wr.drew (.cells #[.int .u32 (y0:Int)] 66)))
   have k1:=cell_of HP.o.Za 5
   simp only [SK,S6,SJ] at k1
   refine Z_.Y_ hK _ _ ?_ (fun VE=>?_)
   ·exact k1
   clear hK K
   try simp only [Z_.pt]
   refine YR 7 (h:=fun K hK=>?_)
   refine Zp Zr (.tmp 87) (.tmp 92) 29 Zr w.heap.size Vu (.slice a i q) i (YO (zT b i)) Zr HO.o _ 1 (YO [(y0:Int)]) Zr (VF wr.drew 66 1 (YO [(y0:Int)]) Zd) rfl (KI _) Zo Zo ?_ ?_
   ·exact HP.o.Zj.size
   intro v' w7 I2 zq
   obtain ⟨na,nq,NZ,-⟩:=Row.Z6 I2.o
   subst NZ
   have HP:=Zh (HP.o.grown HO.o Zd zq.o)
   have HO:Hid (w7.ownsRow w 66 1 (.slice na (i+1) nq) (i+1) (YO (zT b i++[(y0:Int)]))):=(by have h:=I2.o;rw [show YO (zT b i)++YO [(y0:Int)]=YO (zT b i++[(y0:Int)]) from (N7 ..).symm] at h;exact h)
   have k2:=cell_of HP.o.Za 5
   simp only [SK,S6,SJ] at k2
   have f2:=ZO HP.o.Za 5
   refine Z_.Y_ hK _ _ ?_ (fun OD=>?_)
   ·exact k2
   clear hK K
   try simp only [Z_.pt]
   refine YP 8 (h:=?_)
   refine YR 9 (h:=fun K hK=>?_)
   go_simp
   refine Z_.Ye hK _ _ Zk ?_
   clear hK K
   try simp only [Z_.pt]
   refine Z_.Yr Zk ?_ _
   refine QY ?_
   go_wp2_with fail
   go_roundw
   case rel=>
    refine ⟨i+1,pos+4,k-1,na,nq,by have:=N0.o;omega,by have:=N0.o;omega,by have:=N0.o;omega,Zn,rfl,HP.o.set 5 (.slice na (i+1) nq),?_⟩
    rw [Mb.o];exact tS HO.o HP.o.Za Zd _ _
   case measure=>have:=N0.o;simp [intOf];omega
  ·obtain rfl:k=0:=by omega
   obtain rfl:i=cc:=by omega
   have SH:=Zh (Row.Z6 HO.o)
   have N0:Hid (pos=12+4*i∧pos≤b.length):=⟨QQ,pB⟩
   have Ex:pos≤512:=by omega
   obtain ⟨d0,d1⟩:=fM.o wr HP.o.Zj
   obtain ⟨y,hy⟩:∃ y:Nat,y=x0 / 16:=⟨_,rfl⟩
   have p1:IntKind.u8.wrap ((x0:Int) / 16)=(y:Int):=by rw [IntKind.wrap_u8];omega
   have rD:(y % 2=1)↔at8 b 0 / 16 % 2=1:=by rw [hy,HH.o.2.2.2.1]
   have DZ:=Zh rD
   clear HO hik QQ pB iE rD hy
   have HKE:Hid (WV b=if at8 b 0 / 16 % 2=1 then pos+4+4*get b ((pos:Int)+2) 2 else pos):=by show _=_;unfold WV;rw [N0.o.1,HM.o.2.2,HH.o.2.2.2.1]
   have vQ:Hid (Uk b=if at8 b 0 / 16 % 2=1 then pos+4 else pos):=by show _=_;unfold Uk;rw [N0.o.1,HM.o.2.2,HH.o.2.2.2.1]
   have ny:Hid (X=if at8 b 0 / 16 % 2=1∧b.length<pos+4 then (WU,2) else if b.length<WV b then (WU,2) else if at8 b 0 / 32 % 2=1∧(WV b=b.length∨at8 b (b.length-1)=0∨b.length-WV b<at8 b (b.length-1)) then (WU,1) else if at8 b 0 / 32 % 2=1∧¬(((b.drop (b.length-at8 b (b.length-1))).take (at8 b (b.length-1)-1)).all (fun x=>decide (x=0))=true) then (WU,1) else (TN b (Uk b,WV b,b.length-Tm b),0)):=by
    have e:12+4*(at8 b 0 % 16)=pos:=by rw [N0.o.1,HM.o.2.2,HH.o.2.2.2.1]
    show _=_
    rw [HX.o,e,Z4 (by have:=N0.o.2;omega)]
   clear HX
   go_upto_if 102 with fail
   go_cut [7] (fun s7 wx=>∃ (hx:Bool) (pf:Nat) (ev:Value),s7 = .int .i64 ((WV b:Nat):Int)∧WV b≤b.length∧¬(at8 b 0 / 16 % 2=1∧b.length<pos+4)∧hx=decide (at8 b 0 / 16 % 2=1)∧pf=(if at8 b 0 / 16 % 2=1 then get b (pos:Int) 2 else 0)∧PG w wx [.bool mk,.int .i64 (ty:Int),.int .u16 (sq:Int),.int .u32 (tm:Int),.int .u32 (sr:Int),.slice a i q,.bool hx,.int .u16 (pf:Int),ev,.slice none 0 0,.int .i64 0]∧Row wx 66 (.slice a i q) i (YO (zT b i))∧Row wx 5 ev (Pj b).length (RX (Pj b)))
   case first=>
    by_cases hex:at8 b 0 / 16 % 2=1
    rotate_left
    ·have d9:((y:Int).tmod 2 == 1)=false:=by rw [WQ,Int.tmod_eq_emod_of_nonneg Zo];intro h;exact hex (DZ.o.1 Zo)
     have d9c:((y:Int) % 2 == 1)=false:=by rw [WQ];intro h;exact hex (DZ.o.1 Zo)
     have d9d:((x0:Int) / 16 % 2 == 1)=false:=by rw [WQ];intro h;have:=HH.o.2.2.2.1;exact hex Zo
     go_wp2_with fail
     go_meet
     have e1:=HKE.o
     rw [Z4 hex] at e1
     exact ⟨false,0,.slice none 0 0,by rw [e1],by rw [e1];exact N0.o.2,fun h=>hex h.1,(WB hex).symm,(Z4 hex).symm,HP.o,SH.o,by rw [show Pj b=[] from Z4 hex];exact Row.nil _ _⟩
    ·have d9:((y:Int).tmod 2 == 1)=true:=by rw [beq_iff_eq,Int.tmod_eq_emod_of_nonneg Zo];have:=DZ.o.2 hex;omega
     have d9c:((y:Int) % 2 == 1)=true:=by rw [beq_iff_eq];have:=DZ.o.2 hex;omega
     have d9d:((x0:Int) / 16 % 2 == 1)=true:=by rw [beq_iff_eq];have:=HH.o.2.2.2.1;omega
     have iO:IntKind.i64.wrap ((pos:Int)+4)=(pos:Int)+4:=Ty _ Zo
     by_cases h8:b.length<pos+4
     ·have l7:decide ((b.length:Int)<(pos:Int)+4)=true:=We Zo
      have Vs:Hid (X=(WU,2)):=by show _=_;rw [ny.o,ZQ ⟨hex,h8⟩]
      have Ub:=HP.o.z
      have UN:=HP.o.Za
      go_wp2_with (first|((with_reducible refine Y8 79 (.tmp 6) rfl ?_);refine Zl Ub Tryz.underlying79 ?_)|((with_reducible refine ZU 79 (.tmp 2) (.tmp 108) rfl ?_);refine Zs UN ?_))
      exact Yt2
     have l8:decide ((b.length:Int)<(pos:Int)+4)=false:=WB Zo
     obtain ⟨nw,aY⟩:∃ x:Nat,x=get b ((pos:Int)+2) 2:=⟨_,rfl⟩
     obtain ⟨pf,eA⟩:∃ x:Nat,x=get b (pos:Int) 2:=⟨_,rfl⟩
     have hn16:nw<65536:=by rw [aY];exact Nb b _
     have C9:=Zh (fun (w':World) (h:Below w w w')=>CR.o ((pos:Int)+2) 2 w' h)
     have CF:=Zh (fun (w':World) (h:Below w w w')=>CR.o (pos:Int) 2 w' h)
     rw [←aY] at C9
     rw [←eA] at CF
     have s2:IntKind.i64.wrap ((pos:Int)+2)=(pos:Int)+2:=Ty _ Zo
     have s3:IntKind.i64.wrap (nw:Int)=(nw:Int):=Ty _ Zo
     have s4:IntKind.i64.wrap (4*(nw:Int))=4*(nw:Int):=Ty _ Zo
     obtain ⟨Z,hZ⟩:∃ Z:Nat,Z=pos+4+4*nw:=⟨_,rfl⟩
     have s5:IntKind.i64.wrap ((pos:Int)+4+4*(nw:Int))=(Z:Int):=by rw [Ty _ Zo];omega
     have s6:IntKind.i64.wrap (4+4*(nw:Int))=4+4*(nw:Int):=Ty _ Zo
     have s7:IntKind.i64.wrap ((pos:Int)+(4+4*(nw:Int)))=(Z:Int):=by rw [Ty _ Zo];omega
     have s8:IntKind.u16.wrap (pf:Int)=(pf:Int):=by rw [eA];have:=Nb b (pos:Int);rw [IntKind.wrap_u16];omega
     have I3:Hid (WV b=Z):=by show _=_;rw [HKE.o,ZQ hex,hZ,aY]
     have HPF:=Zh eA
     have bq:pos+4≤Z:=by omega
     clear aY eA hZ
     by_cases h9:b.length<Z
     ·have l9:decide ((b.length:Int)<(Z:Int))=true:=We Zo
      have Vs:Hid (X=(WU,2)):=by show _=_;rw [ny.o,Z4 (fun h=>h8 h.2),ZQ (by rw [I3.o];exact h9)]
      have Ub:=HP.o.z
      have UN:=HP.o.Za
      go_wp2_with (first|(go_at_call 118;refine (C9.o _ HP.o.Zj).mono ?_;rintro e w' ⟨rfl,rfl⟩)|((with_reducible refine Y8 79 (.tmp 6) rfl ?_);refine Zl Ub Tryz.underlying79 ?_)|((with_reducible refine ZU 79 (.tmp 2) (.tmp 122) rfl ?_);refine Zs UN ?_))
      exact Yt2
     have l9:decide ((b.length:Int)<(Z:Int))=false:=WB Zo
     obtain ⟨vs,Uz,IW⟩:=Wk (P:=Tryz.prog) VL (some ⟨g,off,none⟩) b.length c (pos+4) Z bq Zo Sg
     have bj:∀ w,(Instr.slice 30 (.slice (some ⟨g,off,none⟩) b.length c) (some (.int .i64 ((pos:Int)+4))) (some (.int .i64 (Z:Int))) none).run Tryz.prog w = .ok (.slice vs (Z-(pos+4)) (c-(pos+4))) w:=Uz
     obtain ⟨m,hm⟩:∃ m:Nat,m=Z-(pos+4):=⟨_,rfl⟩
     obtain ⟨c',Ll⟩:∃ m:Nat,m=c-(pos+4):=⟨_,rfl⟩
     have BB:((b.drop (pos+4)).take (Z-(pos+4))).length=m:=by rw [Tg,Rx,hm];omega
     have mK:Hid (∀ w',Below w w w'→XU w' (.slice vs m c') m (RX ((b.drop (pos+4)).take (Z-(pos+4))))):=fun w' h=>by
      have h2:X9 w' _ _:=OT Zo bq IW (HV.o w' h)
      rw [←hm,←Ll] at h2
      have h3:XU w' _ _ _:=h2
      rw [←hm] at BB
      rw [BB] at h3
      rw [hm];rw [hm] at h3;exact h3
     rw [←hm,←Ll] at bj
     have HEB:Hid (Pj b=(b.drop (pos+4)).take (Z-(pos+4))):=by show _=_;unfold Pj;rw [ZQ hex,I3.o,vQ.o,ZQ hex]
     have iG:m≤512:=by omega
     generalize (b.drop (pos+4)).take (Z-(pos+4))=xb at *
     have uE:=Zh BB
     clear Uz IW hm Ll BB
     have zc:=cell_of HP.o.Za 6
     simp only [SK,S6,SJ] at zc
     have fc:=ZO HP.o.Za 6
     have BR:=HP
     go_upto_region 30 with (go_at_call 118;refine (C9.o _ HP.o.Zj).mono ?_;rintro e w' ⟨rfl,rfl⟩)
     have HP:Hid (PG w (wr.setCell ⟨w,6,none⟩ (.bool true)) (Qb mk (ty:Int) (sq:Int) (tm:Int) (sr:Int) a i q true 0 none 0 0 none 0 0 0)):=HP.o.set 6 (.bool true)
     have SH:=Zh (Ro SH.o BR.o.Za Zd 6 (.bool true))
     clear zc fc BR
     generalize wr.setCell ⟨w,6,none⟩ (.bool true)=w7 at *
     have zc:=cell_of HP.o.Za 7
     simp only [SK,S6,SJ] at zc
     have fc:=ZO HP.o.Za 7
     have BR:=HP
     go_upto_region 31 with (go_at_call 118;refine (CF.o _ HP.o.Zj).mono ?_;rintro e w' ⟨rfl,rfl⟩)
     have HP:Hid (PG w (w7.setCell ⟨w,7,none⟩ (.int .u16 (pf:Int))) (Qb mk (ty:Int) (sq:Int) (tm:Int) (sr:Int) a i q true (pf:Int) none 0 0 none 0 0 0)):=HP.o.set 7 (.int .u16 (pf:Int))
     have SH:=Zh (Ro SH.o BR.o.Za Zd 7 (.int .u16 (pf:Int)))
     clear zc fc BR
     generalize w7.setCell ⟨w,7,none⟩ (.int .u16 (pf:Int))=w8 at *
     have HBR8:=Zh (mK.o w8 HP.o.Zj)
     go_wp2_with (at_builtin;refine QN rfl (.const (.slice none 0 0)) (.tmp 136) 30 rfl w.heap.size VL (.slice none 0 0) 0 [] rfl (Ua _ _ _ _) (.slice vs m c') m (RX xb) rfl HBR8.o (by rw [Xl,uE.o,Nat.mul_one]) (Cj _) Zo Zo HP.o.Zj.size (fun v9 w9 zt rJ=>?_);obtain ⟨ea,ec,dQ⟩:=Row.form (Row.Z6 zt.o);subst dQ;have lT:=Zh (JJ rJ.o);have m_:=Zh (HP.o.below lT.o);have b9:=Zh (Row.below SH.o lT.o);have zc:=cell_of m_.o.Za 8;simp only [SK,S6,SJ] at zc;have fc:=ZO m_.o.Za 8)
     go_meet
     refine ⟨true,pf,.slice ea m ec,by rw [I3.o],by rw [I3.o];omega,fun h=>h8 h.2,(We hex).symm,by rw [ZQ hex,HPF.o],m_.o.set 8 (.slice ea m ec),Ro b9.o m_.o.Za Zd 8 _,?_⟩
     rw [HEB.o,uE.o]
     have h:=Row.Z6 zt.o
     rw [QP,Jy] at h
     exact Ro h m_.o.Za Zd 8 _
   case rest=>
    clear N0 DZ SH Ex p1 d0 d1
    obtain ⟨hx,pf,ev,eI,pB,hnx,hhx,eA,Er,yX,lj⟩:=hcut
    obtain ⟨WC,rfl⟩:∃ W:World,W=wc:=⟨_,rfl⟩
    subst eI
    obtain ⟨xa,xc,rfl⟩:=Row.form lj
    have HP:=Zh Er
    have SH:=Zh yX
    have rR:=Zh lj
    have aI:Hid (hx=decide (at8 b 0 / 16 % 2=1)∧pf=if at8 b 0 / 16 % 2=1 then get b (pos:Int) 2 else 0):=⟨hhx,eA⟩
    have ck:Hid (X=if at8 b 0 / 32 % 2=1∧(WV b=b.length∨at8 b (b.length-1)=0∨b.length-WV b<at8 b (b.length-1)) then (WU,1) else if at8 b 0 / 32 % 2=1∧¬(((b.drop (b.length-at8 b (b.length-1))).take (at8 b (b.length-1)-1)).all (fun x=>decide (x=0))=true) then (WU,1) else (TN b (Uk b,WV b,b.length-Tm b),0)):=by show _=_;rw [ny.o,Z4 hnx,Z4 Zo]
    obtain ⟨la,iF⟩:∃ x:Nat,x=at8 b (b.length-1):=⟨_,rfl⟩
    obtain ⟨A,hA⟩:∃ x:Nat,x=WV b:=⟨_,rfl⟩
    have hlaR:la<256:=by rw [iF];exact Xo b _
    obtain ⟨d0,d1⟩:=fM.o WC HP.o.Zj
    have u7:WC.cell? ⟨g,off+(b.length-1),none⟩=some (.int .u8 (la:Int)):=by rw [iF];exact HD.o WC HP.o.Zj _ Zo
    obtain ⟨y,hy⟩:∃ y:Nat,y=x0 / 32:=⟨_,rfl⟩
    have p1:IntKind.u8.wrap ((x0:Int) / 32)=(y:Int):=by rw [IntKind.wrap_u8];omega
    have HYY:Hid ((y % 2=1)↔at8 b 0 / 32 % 2=1):=by show _↔_;rw [hy,HH.o.2.2.2.1]
    rw [←iF,←hA] at ck
    rw [←hA] at pB ⊢
    clear Er yX lj hhx eA hnx hy ny
    obtain ⟨L1,hL1⟩:∃ x:Nat,x=b.length-1:=⟨_,rfl⟩
    obtain ⟨D,hD⟩:∃ x:Nat,x=b.length-A:=⟨_,rfl⟩
    have Gf:Hid (L1=b.length-1∧D=b.length-A∧la=at8 b (b.length-1)∧A=WV b):=⟨hL1,hD,iF,hA⟩
    have W9:b.length≤512:=by omega
    have YZ:1≤b.length:=by omega
    rw [←hL1] at u7
    have s1:IntKind.i64.wrap ((b.length:Int)-1)=(L1:Int):=by rw [Ty _ Zo];omega
    have s2:IntKind.i64.wrap (la:Int)=(la:Int):=Ty _ Zo
    have s3:IntKind.i64.wrap ((b.length:Int)-(A:Int))=(D:Int):=by rw [Ty _ Zo];omega
    have i8:(L1:Int)<(b.length:Int):=by omega
    have i9:(0:Int)≤(L1:Int):=rq L1
    have i7:L1<b.length:=by omega
    have hDL:D≤b.length:=by omega
    clear hL1 hD iF hA
    go_upto_if 150 with fail
    go_cut [10] (fun s10 wx=>s10 = .int .i64 ((b.length-Tm b:Nat):Int)∧A≤b.length-Tm b∧(Tm b≤255∧Tm b≤b.length)∧X=(TN b (Uk b,A,b.length-Tm b),0)∧PG w wx (Qb mk (ty:Int) (sq:Int) (tm:Int) (sr:Int) a i q hx (pf:Int) xa (Pj b).length xc none 0 0 ((Tm b:Nat):Int))∧Row wx 66 (.slice a i q) i (YO (zT b i))∧Row wx 5 (.slice xa (Pj b).length xc) (Pj b).length (RX (Pj b)))
    case first=>
     by_cases oN:at8 b 0 / 32 % 2=1
     rotate_left
     ·have d9:((y:Int).tmod 2 == 1)=false:=by rw [WQ,Int.tmod_eq_emod_of_nonneg Zo];intro h;exact oN (HYY.o.1 Zo)
      have d9c:((y:Int) % 2 == 1)=false:=by rw [WQ];intro h;exact oN (HYY.o.1 Zo)
      have d9d:((x0:Int) / 32 % 2 == 1)=false:=by rw [WQ];intro h;have:=HH.o.2.2.2.1;exact oN Zo
      have hp0:Tm b=0:=Z4 oN
      go_wp2_with fail
      go_meet
      rw [hp0,Nat.sub_zero]
      exact ⟨rfl,pB,⟨by decide,Tw _⟩,by rw [ck.o,Z4 (fun h=>oN h.1),Z4 (fun h=>oN h.1),hp0,Nat.sub_zero],HP.o,SH.o,rR.o⟩
     have d9:((y:Int).tmod 2 == 1)=true:=by rw [beq_iff_eq,Int.tmod_eq_emod_of_nonneg Zo];have:=HYY.o.2 oN;omega
     have d9c:((y:Int) % 2 == 1)=true:=by rw [beq_iff_eq];have:=HYY.o.2 oN;omega
     have d9d:((x0:Int) / 32 % 2 == 1)=true:=by rw [beq_iff_eq];have:=HH.o.2.2.2.1;omega
     have S7:Tm b=la:=by unfold Tm;rw [ZQ oN,Gf.o.2.2.1]
     by_cases N_:A=b.length∨la=0∨b.length-A<la
     ·rcases (show A=b.length∨(¬A=b.length∧la=0)∨(¬A=b.length∧¬la=0∧D<la) by have:=Gf.o.2.1;omega) with hq1|⟨hq1,tB⟩|⟨hq1,tB,eD⟩
      case' inl=>have e1:((A:Int) == (b.length:Int))=true:=by rw [beq_iff_eq];omega
      case' inr.inl=>have e1:((A:Int) == (b.length:Int))=false:=by rw [WQ];omega
      case' inr.inl=>have e2:((la:Int) == 0)=true:=by rw [beq_iff_eq];omega
      case' inr.inr=>have e1:((A:Int) == (b.length:Int))=false:=by rw [WQ];omega
      case' inr.inr=>have e2:((la:Int) == 0)=false:=by rw [WQ];omega
      case' inr.inr=>have e3:decide ((D:Int)<(la:Int))=true:=We Zo
      case' inr.inr=>have e3n:decide (D<la)=true:=We eD
      all_goals
       have Vs:Hid (X=(WU,1)):=by show _=_;rw [ck.o,ZQ ⟨oN,N_⟩]
       have Ub:=HP.o.z
       have UN:=HP.o.Za
       go_wp2_with (first|((with_reducible refine Y8 79 (.tmp 6) rfl ?_);refine Zl Ub Tryz.underlying79 ?_)|((with_reducible refine ZU 79 (.tmp 2) (.tmp 174) rfl ?_);refine Zs UN ?_))
       refine VJ (v:= .tuple (Qx (Qb false 0 0 0 0 none 0 0 false 0 none 0 0 none 0 0 0) 0 0 1)) ?_ rfl ?_
       ·exact UU (p:=2) (u:=3) (v:=4) (x:=5) Zr _ _ w.heap.size 79 (Qb false 0 0 0 0 none 0 0 false 0 none 0 0 none 0 0 0) (0,0) _ Zr (setRow_heap _ _ _ _ _ _ UN) Tryz.underlying79 rfl Zk
       first|exact UL.o _ 1 HP.o.Zj Vs.o|(obtain ⟨⟨a,f,t,k1,k2⟩,k3⟩:=UL.o _ 1 HP.o.Zj Vs.o;exact ⟨⟨a,⟨f,t,k1⟩,k2⟩,k3⟩)
     have HX7:Hid (X=if ¬(((b.drop (b.length-la)).take (la-1)).all (fun x=>decide (x=0))=true) then (WU,1) else (TN b (Uk b,A,b.length-Tm b),0)):=by
      show _=_
      rw [ck.o,Z4 (fun h=>N_ h.2)]
      simp only [oN,true_and]
     have e1:((A:Int) == (b.length:Int))=false:=by rw [WQ];omega
     have e2:((la:Int) == 0)=false:=by rw [WQ];omega
     have e3:decide ((D:Int)<(la:Int))=false:=WB (by have:=Gf.o.2.1;omega)
     have e3n:decide (D<la)=false:=WB (by have:=Gf.o.2.1;omega)
     have hla1:1≤la:=by omega
     obtain ⟨E,hE⟩:∃ x:Nat,x=b.length-la:=⟨_,rfl⟩
     have s4:IntKind.i64.wrap ((b.length:Int)-(la:Int))=(E:Int):=by rw [Ty _ Zo];omega
     have aU:A≤E:=by have:=Gf.o.2.1;omega
     have hJ:E≤L1:=by have:=Gf.o.1;omega
     obtain ⟨zv,Uz,IW⟩:=Wk (P:=Tryz.prog) VL (some ⟨g,off,none⟩) b.length c E L1 hJ Zo Sg
     have bj:∀ w,(Instr.slice 30 (.slice (some ⟨g,off,none⟩) b.length c) (some (.int .i64 (E:Int))) (some (.int .i64 (L1:Int))) none).run Tryz.prog w = .ok (.slice zv (L1-E) (c-E)) w:=Uz
     obtain ⟨m,hm⟩:∃ m:Nat,m=L1-E:=⟨_,rfl⟩
     obtain ⟨c',Ll⟩:∃ m:Nat,m=c-E:=⟨_,rfl⟩
     have BB:((b.drop E).take (L1-E)).length=m:=by rw [Tg,Rx,hm];omega
     have mK:Hid (∀ w',Below w w w'→X9 w' (.slice zv m c') ((b.drop E).take (L1-E))):=fun w' h=>by
      have h2:X9 w' _ _:=OT Zo hJ IW (HV.o w' h)
      rw [←hm,←Ll] at h2
      rw [←hm] at BB ⊢
      exact h2
     have rI:Hid (X=if ¬(((b.drop E).take (L1-E)).all (fun x=>decide (x=0))=true) then (WU,1) else (TN b (Uk b,A,b.length-Tm b),0)):=by
      show _=_
      rw [HX7.o,hE,show L1-(b.length-la)=la-1 by have:=Gf.o.1;omega]
     rw [←hm,←Ll] at bj
     have iG:m≤512:=by omega
     generalize (b.drop E).take (L1-E)=zb at *
     have uE:=Zh BB
     have Fg:Hid (E=b.length-Tm b∧Tm b=la):=⟨by rw [hE,S7],S7⟩
     clear Uz IW hm Ll BB HX7 N_ hE S7
     have zc:=cell_of HP.o.Za 10
     simp only [SK,S6,SJ] at zc
     have fc:=ZO HP.o.Za 10
     go_upto_region 38 with fail
     have SH:=Zh (Ro SH.o HP.o.Za Zd 10 (.int .i64 (la:Int)))
     have rR:=Zh (Ro rR.o HP.o.Za Zd 10 (.int .i64 (la:Int)))
     have HP:Hid (PG w (WC.setCell ⟨w,10,none⟩ (.int .i64 (la:Int))) (Qb mk (ty:Int) (sq:Int) (tm:Int) (sr:Int) a i q hx (pf:Int) xa (Pj b).length xc none 0 0 (la:Int))):=HP.o.set 10 (.int .i64 (la:Int))
     clear zc fc
     generalize WC.setCell ⟨w,10,none⟩ (.int .i64 (la:Int))=w8 at *
     have zc:=cell_of HP.o.Za 10
     simp only [SK,S6,SJ] at zc
     go_wp2_with fail
     clear zc
     go_loopw [193] (fun fA w'=>∃ j:Nat,j≤m∧fA = .int .i64 (j:Int)∧w'=w8∧(zb.take j).all (fun x=>decide (x=0))=true) (fun fA _=>m-(intOf fA).toNat)
     case atStart=>exact ⟨0,Zo,rfl,rfl,by rw [List.take_zero];rfl⟩
     case round=>
      obtain ⟨j,hj,rfl,hwr,UE⟩:=hrel
      subst hwr
      by_cases Am:j<m
      rotate_left
      ·have MM:zb.take j=zb:=F5 (by rw [uE.o];omega)
       rw [MM] at UE
       have au:Hid (X=(TN b (Uk b,A,b.length-Tm b),0)):=by show _=_;rw [rI.o,Z4 (fun h=>h UE)]
       have hjm2:j=m:=by omega
       subst hjm2
       clear UE MM
       go_wp2_with fail
       go_meet
       exact ⟨by rw [Fg.o.1],by rw [←Fg.o.1];exact aU,⟨by rw [Fg.o.2];omega,by rw [Fg.o.2];have:=of_decide_eq_false e3n;omega⟩,au.o,by rw [Fg.o.2];exact HP.o,SH.o,rR.o⟩
      obtain ⟨g3,off3,cap3,e4,_,_,mh⟩:=R7 (mK.o wr HP.o.Zj) (by rw [uE.o];omega)
      rw [uE.o] at e4
      cases e4
      have pW:=mh j (by rw [uE.o];exact Am)
      have Al:(j:Int)<(m:Int):=Ou.2 Am
      have hzj:zb[j]?=some (zb[j]'(by rw [uE.o];exact Am)):=U7 _
      have hzt:=Rt hzj
      have Vc:at8 zb j=(zb[j]'(by rw [uE.o];exact Am)).toNat:=by unfold at8;rw [Rw,hzj];rfl
      generalize zb[j]'(by rw [uE.o];exact Am)=zj at *
      obtain ⟨u,hu⟩:∃ u:Nat,u=at8 zb j:=⟨_,rfl⟩
      rw [←hu] at pW Vc
      have HZJ:Hid (u=zj.toNat∧zb.take (j+1)=zb.take j++[zj]∧(zb.take j).all (fun x=>decide (x=0))=true):=⟨Vc,hzt,UE⟩
      clear mh hzj hzt Vc hu UE
      by_cases hu0:u=0
      rotate_left
      ·have e5:((u:Int) != 0)=true:=by rw [R6];omega
       have Vs:Hid (X=(WU,1)):=by show _=_;rw [rI.o,ZQ (fun h=>by have h2:=List.all_eq_true.1 h zj (by have e:zj∈zb.take (j+1):=(by rw [HZJ.o.2.1];simp);exact List.mem_of_mem_take e);exact hu0 (by rw [HZJ.o.1];have h3:=of_decide_eq_true h2;rw [h3];rfl))]
       have Ub:=HP.o.z
       have UN:=HP.o.Za
       go_wp2_with (first|((with_reducible refine Y8 79 (.tmp 6) rfl ?_);refine Zl Ub Tryz.underlying79 ?_)|((with_reducible refine ZU 79 (.tmp 2) (.tmp 199) rfl ?_);refine Zs UN ?_))
       refine VJ (v:= .tuple (Qx (Qb false 0 0 0 0 none 0 0 false 0 none 0 0 none 0 0 0) 0 0 1)) ?_ rfl ?_
       ·exact Yt28
       first|exact UL.o _ 1 HP.o.Zj Vs.o|(obtain ⟨⟨a,f,t,k1,k2⟩,k3⟩:=UL.o _ 1 HP.o.Zj Vs.o;exact ⟨⟨a,⟨f,t,k1⟩,k2⟩,k3⟩)
      have e5:((u:Int) != 0)=false:=by rw [bne_eq_false_iff_eq];omega
      have HU0:Hid (zj=0):=UInt8.toNat_inj.1 (by rw [←HZJ.o.1,hu0];rfl)
      clear hu0
      go_wp2_with fail
      go_roundw
      case rel=>exact ⟨j+1,Zo,Zn,by first|rfl|trivial,by rw [HZJ.o.2.1,List.all_append,HZJ.o.2.2,HU0.o];rfl⟩
      case measure=>simp [intOf];omega
    case rest=>
     obtain ⟨hs10,aU,⟨hp255,hplb⟩,hXF,Er,yX,lj⟩:=hcut
     obtain ⟨WD,rfl⟩:∃ W:World,W=wc:=⟨_,rfl⟩
     subst hs10
     obtain ⟨E,hE⟩:∃ x:Nat,x=b.length-Tm b:=⟨_,rfl⟩
     rw [←hE] at aU hXF ⊢
     have hJ:E≤b.length:=by omega
     have Fg:Hid ((b.length:Int)-(E:Int)=((Tm b:Nat):Int)):=by show _=_;omega
     have HP:=Zh Er
     have SH:=Zh yX
     have rR:=Zh lj
     have HXF2:=Zh hXF
     obtain ⟨zv,Uz,IW⟩:=Wk (P:=Tryz.prog) VL (some ⟨g,off,none⟩) b.length c A E aU hJ Sg
     have bj:∀ w,(Instr.slice 30 (.slice (some ⟨g,off,none⟩) b.length c) (some (.int .i64 (A:Int))) (some (.int .i64 (E:Int))) none).run Tryz.prog w = .ok (.slice zv (E-A) (c-A)) w:=Uz
     obtain ⟨m,hm⟩:∃ m:Nat,m=E-A:=⟨_,rfl⟩
     obtain ⟨c',Ll⟩:∃ m:Nat,m=c-A:=⟨_,rfl⟩
     have BB:((b.drop A).take (E-A)).length=m:=by rw [Tg,Rx,hm];omega
     have mK:Hid (XU WD (.slice zv m c') m (RX ((b.drop A).take (E-A)))):=by
      have h2:X9 WD _ _:=OT hJ aU IW (HV.o WD HP.o.Zj)
      rw [←hm,←Ll] at h2
      have h3:XU WD _ _ _:=h2
      rw [←hm] at BB ⊢
      rw [BB] at h3
      exact h3
     have iG:m≤512:=by omega
     have Gh:Hid (TN b (Uk b,A,E)=⟨mk,(ty:Int),(sq:Int),(tm:Int),(sr:Int),zT b i,hx,(pf:Int),Pj b,(b.drop A).take (E-A),((Tm b:Nat):Int)⟩):=by
      obtain ⟨g1,g2,g3,g4,g5⟩:=HH.o
      obtain ⟨g6,g7,g8⟩:=HM.o
      obtain ⟨g9,g10⟩:=aI.o
      have f7:(if at8 b 0 / 16 % 2=1 then (get b ((Uk b:Int)-4) 2:Int) else 0)=(pf:Int):=by
       rw [g10]
       by_cases h:at8 b 0 / 16 % 2=1
       ·rw [ZQ h,ZQ h,vQ.o,ZQ h,show ((pos+4:Nat):Int)-4=(pos:Int) by omega]
       ·rw [Z4 h,Z4 h];rfl
      have f8:(if at8 b 0 / 16 % 2=1 then (b.drop (Uk b)).take (A-Uk b) else [])=Pj b:=by unfold Pj;rw [Gf.o.2.2.2]
      show TN b (Uk b,A,E)=_
      have e:TN b (Uk b,A,E)=⟨decide (128≤at8 b 1),((at8 b 1 % 128:Nat):Int),(get b 2 2:Nat),(get b 4 4:Nat),(get b 8 4:Nat),zT b (at8 b 0 % 16),decide (at8 b 0 / 16 % 2=1),if at8 b 0 / 16 % 2=1 then (get b ((Uk b:Int)-4) 2:Int) else 0,if at8 b 0 / 16 % 2=1 then (b.drop (Uk b)).take (A-Uk b) else [],(b.drop A).take (E-A),(b.length:Int)-(E:Int)⟩:=rfl
      rw [e,f7,f8,Fg.o,←g1,←g2,←g3,←g9,←g4,←g5,←g6,←g7,←g8]
     rw [←hm] at Gh
     rw [←hm] at mK
     rw [←hm] at BB
     generalize (b.drop A).take m=xb at *
     rw [←hm,←Ll] at bj
     have uE:=Zh BB
     clear Uz IW hm Ll BB hE Er yX lj hXF aU
     go_wp2_with (first|(at_builtin;refine QN rfl (.const (.slice none 0 0)) (.tmp 204) 30 rfl w.heap.size VL (.slice none 0 0) 0 [] rfl (Ua _ _ _ _) (.slice zv m c') m (RX xb) rfl mK.o (by rw [Xl,uE.o,Nat.mul_one]) (Cj _) Zo Zo HP.o.Zj.size (fun v9 w9 zt rJ=>?_);obtain ⟨ea,ec,dQ⟩:=Row.form (Row.Z6 zt.o);subst dQ;have lT:=Zh (JJ rJ.o);have m_:=Zh (HP.o.below lT.o);have b9:=Zh (Row.below SH.o lT.o);have HRE9:=Zh (Row.below rR.o lT.o);have zc:=cell_of m_.o.Za 9;simp only [SK,S6,SJ] at zc;have fc:=ZO m_.o.Za 9;have UN:(w9.setCell ⟨w,9,none⟩ (.slice ea m ec)).heap[w.heap.size]?=some (.cells (Qb mk (ty:Int) (sq:Int) (tm:Int) (sr:Int) a i q hx (pf:Int) xa (Pj b).length xc ea m ec ((Tm b:Nat):Int)) 79 (0,0)):=(m_.o.set 9 (.slice ea m ec)).Za)|((with_reducible refine Y8 79 (.tmp 2) rfl ?_);refine Zl UN Tryz.underlying79 ?_)|((with_reducible refine ZU 79 (.tmp 2) (.tmp 207) rfl ?_);refine Zs UN ?_))
     refine VJ (v:= .tuple (Qx (Qb mk (ty:Int) (sq:Int) (tm:Int) (sr:Int) a i q hx (pf:Int) xa (Pj b).length xc ea m ec ((Tm b:Nat):Int)) (A:Int) (E:Int) 0)) ?_ rfl ?_
     ·exact UU (p:=2) (u:=3) (v:=4) (x:=5) Zr _ _ w.heap.size 79 (Qb mk (ty:Int) (sq:Int) (tm:Int) (sr:Int) a i q hx (pf:Int) xa (Pj b).length xc ea m ec ((Tm b:Nat):Int)) (0,0) _ Zr (setRow_heap _ _ _ _ _ _ UN) Tryz.underlying79 rfl Zk
     have hfin:Oe ((w9.setCell ⟨w,9,none⟩ (.slice ea m ec)).setRow w.heap.size (Qb mk (ty:Int) (sq:Int) (tm:Int) (sr:Int) a i q hx (pf:Int) xa (Pj b).length xc ea m ec ((Tm b:Nat):Int))) (.agg (Qb mk (ty:Int) (sq:Int) (tm:Int) (sr:Int) a i q hx (pf:Int) xa (Pj b).length xc ea m ec ((Tm b:Nat):Int))) X.1∧X.2=0∧Below w w ((w9.setCell ⟨w,9,none⟩ (.slice ea m ec)).setRow w.heap.size (Qb mk (ty:Int) (sq:Int) (tm:Int) (sr:Int) a i q hx (pf:Int) xa (Pj b).length xc ea m ec ((Tm b:Nat):Int))):=by
      rw [HXF2.o,Gh.o]
      have h:=Row.Z6 zt.o
      rw [QP,Jy,←uE.o] at h
      have Mp:(zT b i).length=i:=by unfold zT;rw [Tx,List.length_range]
      have hc9:Row w9 66 (.slice a (zT b i).length q) (zT b i).length (YO (zT b i)):=by rw [Mp];exact b9.o
      have sr:∀ {e:TypeId} {v:Value} {n:Nat} {xs:List Value},79≠e→Row w9 e v n xs→Row ((w9.setCell ⟨w,9,none⟩ (.slice ea m ec)).setRow w.heap.size (Qb mk (ty:Int) (sq:Int) (tm:Int) (sr:Int) a i q hx (pf:Int) xa (Pj b).length xc ea m ec ((Tm b:Nat):Int))) e v n xs:=fun he hr=>Row.setRow (Ro hr m_.o.Za he 9 _) UN (fun e=>he e.symm) _
      refine ⟨⟨_,_,_,?_,sr Zd hc9,sr Zd HRE9.o,sr Zd h⟩,rfl,Z3 (m_.o.set 9 (.slice ea m ec)).Zj (Zw _) _⟩
      unfold Hj
      rw [Mp,uE.o]
     obtain ⟨k1,k2,k3⟩:=hfin
     rw [k2]
     first|exact ⟨⟨_,_,_,rfl,k1⟩,k3⟩|exact ⟨⟨_,⟨_,_,rfl⟩,k1⟩,k3⟩):p:=h
theorem qz (v:Value) (b:List UInt8) (w:World) (hv:X9 w v b) (sZ:at8 b 1<192) :
  Calls Tryz.prog 94 #[v] w fun e w'=>(∃ a f t,e = .returned (.tuple #[a,.int .i64 f,.int .i64 t,.int .i64 (YM b).2])∧Oe w' a (YM b).1)∧Below w w w':=AY
theorem qy (v:Value) (b:List UInt8) (w:World) (hv:X9 w v b) (sZ:192≤at8 b 1) :
  Calls Tryz.prog 94 #[v] w fun e w'=>(∃ a f t,e = .returned (.tuple #[a,.int .i64 f,.int .i64 t,.int .i64 (YM b).2])∧Oe w' a (YM b).1)∧Below w w w':=AY
theorem tW (v:Value) (b:List UInt8) (w:World) (hv:X9 w v b) :
  Calls Tryz.prog 94 #[v] w fun e w'=>(∃ a f t,e = .returned (.tuple #[a,.int .i64 f,.int .i64 t,.int .i64 (YM b).2])∧Oe w' a (YM b).1)∧Below w w w':=by
 by_cases h:at8 b 1<192
 ·exact qz v b w hv h
 ·exact qy v b w hv Zo
end Go.Proofs.By
