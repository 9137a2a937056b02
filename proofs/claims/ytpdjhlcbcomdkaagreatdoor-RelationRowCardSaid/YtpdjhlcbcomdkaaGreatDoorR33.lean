/- Part of a proof. -/
import Derived.Test.YtpdjhlcbcomdkaaGreatDoorR32
set_option linter.unusedVariables false
set_option linter.unusedSimpArgs false
set_option maxRecDepth 100000
set_option maxHeartbeats 16000000
open Go Go.Q Go.Qr
namespace Go.Proofs.By
open Go.RowKit Go.Proofs.Heap Go.Proofs
open Go.Proofs.Rm (below_drewN YO)
theorem UL {P:Program} {fn:Func} {p u v x:Tmp} {ty:TypeId} (h:fn.results=#[.cell p ty,.tmp u,.tmp v,.tmp x]) (tmps:Array Value) (w:World) (g:Nat) (t:TypeId) (cs:Array Value) (fr:Nat × Nat) (d:TypeDesc)
  (hp:tmps.getD p undef = .pointer (some ⟨g,0,none⟩)) (hg:w.heap[g]?=some (.cells cs t fr))
  (hu:P.underlying ty=some d) (hd:(match d with | .struct _ | .array _ _=>true|_=>false)=true) (hi:(P.info? ty).map (·.size)=some cs.size) :
  (results fn tmps).run P w = .ok (.tuple #[.agg cs,tmps.getD u undef,tmps.getD v undef,tmps.getD x undef]) w:=by
 exact Yt6
structure PG (w w':World) (cs:List Value):Prop where
 Zg:Below w w w'
 z:w'.heap[w.heap.size+1]?=some (.cells (Qb false 0 0 0 0 none 0 0 false 0 none 0 0 none 0 0 0) 79 (0,0))
 Y8:w'.heap[w.heap.size]?=some (.cells cs.toArray 79 (0,0))
section
variable {w w1 w2:World} {cs:List Value}
theorem PG.below (h:PG w w1 cs) (hb:Below w1 w1 w2):PG w w2 cs:=⟨h.Zg.trans (hb.mono h.Zg.size),(hb.block _ (ZW h.z)).trans h.z,(hb.block _ (ZW h.Y8)).trans h.Y8⟩
theorem PG.set (h:PG w w1 cs) (j:Nat) (u:Value):PG w (w1.setCell ⟨w,j,none⟩ u) (cs.set j u):=by
 have h2:=VH h.Y8 j u;rw [List.setIfInBounds_toArray] at h2;exact ⟨((Fr.Z7 PN h.Zg).setCell (p:=⟨w,j,none⟩) (Ws (Zw _)) _).below,(MH w1 ⟨w,j,none⟩ u (w.heap.size+1) (by show w.heap.size+1≠w.heap.size;omega)).trans h.z,h2⟩
theorem PG.grown (h:PG w w1 cs) {e:TypeId} {size:Nat} {v:Value} {n:Nat} {xs:List Value} (ho:w1.ownsRow w e size v n xs) (he:79≠e) (hg:w1.grownBy w2 v.ownBlock):PG w w2 cs:=
 ⟨((Fr.Z7 PN h.Zg).grown hg h.Zg.size (Rm.YL ho)).below,(hg.block _ (ZW h.z) (fun x=>Za ho he _ _ _ x.symm h.z)).trans h.z,(hg.block _ (ZW h.Y8) (fun x=>Za ho he _ _ _ x.symm h.Y8)).trans h.Y8⟩
theorem PG.start (w:World):PG w (((w.alloc (.cells (Qb false 0 0 0 0 none 0 0 false 0 none 0 0 none 0 0 0) 79)).alloc (.cells (Qb false 0 0 0 0 none 0 0 false 0 none 0 0 none 0 0 0) 79)).setRow (w.heap.size+1) (Qb false 0 0 0 0 none 0 0 false 0 none 0 0 none 0 0 0)) (Qb false 0 0 0 0 none 0 0 false 0 none 0 0 none 0 0 0)∧((w.alloc (.cells (Qb false 0 0 0 0 none 0 0 false 0 none 0 0 none 0 0 0) 79)).alloc (.cells (Qb false 0 0 0 0 none 0 0 false 0 none 0 0 none 0 0 0) 79)).heap[w.heap.size+1]?=some (.cells (Qb false 0 0 0 0 none 0 0 false 0 none 0 0 none 0 0 0) 79 (0,0)):=by
 have e1:(w.alloc (.cells (Qb false 0 0 0 0 none 0 0 false 0 none 0 0 none 0 0 0) 79)).heap.size=w.heap.size+1:=by show (w.heap.push _).size=_;rw [OI]
 have hz:((w.alloc (.cells (Qb false 0 0 0 0 none 0 0 false 0 none 0 0 none 0 0 0) 79)).alloc (.cells (Qb false 0 0 0 0 none 0 0 false 0 none 0 0 none 0 0 0) 79)).heap[w.heap.size+1]?=some (.cells (Qb false 0 0 0 0 none 0 0 false 0 none 0 0 none 0 0 0) 79 (0,0)):=by
  have h:=Z8 (w.alloc (.cells (Qb false 0 0 0 0 none 0 0 false 0 none 0 0 none 0 0 0) 79)) (.cells (Qb false 0 0 0 0 none 0 0 false 0 none 0 0 none 0 0 0) 79);rw [e1] at h;exact h
 refine ⟨⟨Z3 (ZF (Z' w _) (Zw _) _) (Ix _) _,setRow_heap _ _ _ _ _ _ hz,?_⟩,hz⟩;rw [setRow_other _ _ _ _ Zo,(Z' (w.alloc (.cells (Qb false 0 0 0 0 none 0 0 false 0 none 0 0 none 0 0 0) 79)) _).block _ (by rw [e1];omega)];exact Z8 w _
end
def zD (b:List UInt8) (n:Nat):List Int:=(List.range n).map fun (i:Nat)=>((get b (12+4*(i:Int)) 4:Nat):Int)
theorem tj {w:World} {B:Nat} {e:TypeId} {size:Nat} {v:Value} {n:Nat} {xs:List Value} (h:w.ownsRow B e size v n xs) {g:Nat} {c:Array Value} {f:Nat × Nat} (hg:w.heap[g]?=some (.cells c 79 f)) (he:79≠e) (o:Nat) (u:Value):(w.setCell ⟨g,o,none⟩ u).ownsRow B e size v n xs:=
 XQ h fun j hj=>by
  by_cases hjg:j=g
  ·subst hjg;exact absurd hg (Za h he _ _ _ hj)
  ·exact MH w ⟨g,o,none⟩ _ j hjg
def O4 (b:List UInt8):List UInt8:=if at8 b 0 / 16 % 2=1 then (b.drop (Ua b)).take (WU b-Ua b) else []
theorem I_ {w w':World} (hg:w.grownBy w' (Value.slice none 0 0).ownBlock):Below w w w':=(YJ _ _).grown hg (Zw _) (fun k hk=>by cases hk)
theorem QZ {w:World} {e:TypeId} {v:Value} {n:Nat} {xs:List Value} (h:Row w e v n xs) {g:Nat} {c:Array Value} {f:Nat × Nat} (hg:w.heap[g]?=some (.cells c 79 f)) (he:79≠e) (o:Nat) (u:Value):Row (w.setCell ⟨g,o,none⟩ u) e v n xs:=
 Row.fr h ((Fr.refl w.heap.size (· = g) w).setAt o u) (Zw _) (fun k c' fr hk hc=>by
  have hk:k=g:=hk;rw [hk,hg] at hc;injection hc with hc
  injection hc with _ hc
  exact he hc)
theorem G7 (w:World):N0 w (.agg (Qb false 0 0 0 0 none 0 0 false 0 none 0 0 none 0 0 0)) WT:=⟨_,_,_,rfl,Row.nil _ _,Row.nil _ _,Row.nil _ _⟩
set_option maxRecDepth 1000000 in
theorem AA {p:Prop} (h:p:=by
 have CR:=Zh (fun (p q:Int) (w':World) (h:Below w w w')=>Rj v b p q w' (hv.below h));have HX:Hid (YM b=Df b):=xK b;have HV:Hid (∀ w',Below w w w'→X6 w' v b):=fun w' h=>hv.below h
 obtain ⟨⟨W8,hzz,ll⟩,hz⟩:=PG.start w;have HP:Hid (PG w (((w.alloc (.cells (Qb false 0 0 0 0 none 0 0 false 0 none 0 0 none 0 0 0) 79)).alloc (.cells (Qb false 0 0 0 0 none 0 0 false 0 none 0 0 none 0 0 0) 79)).setRow (w.heap.size+1) (Qb false 0 0 0 0 none 0 0 false 0 none 0 0 none 0 0 0)) (Qb false 0 0 0 0 none 0 0 false 0 none 0 0 none 0 0 0)):=⟨W8,hzz,ll⟩
 have UD:Hid (∀ w2 er,Below w w w2→YM b=(WT,er)→(∃ a f t,Ending.returned (.tuple (Q0 (Qb false 0 0 0 0 none 0 0 false 0 none 0 0 none 0 0 0) 0 0 er)) = .returned (.tuple #[a,.int .i64 f,.int .i64 t,.int .i64 (YM b).2])∧N0 (w2.setRow w.heap.size (Qb false 0 0 0 0 none 0 0 false 0 none 0 0 none 0 0 0)) a (YM b).1)∧Below w w (w2.setRow w.heap.size (Qb false 0 0 0 0 none 0 0 false 0 none 0 0 none 0 0 0))):=fun w2 er h2 h3=>by
  rw [h3];exact ⟨⟨_,_,_,rfl,G7 _⟩,Z3 h2 (Zw _) _⟩
 obtain ⟨va,c,rfl,R4,wq⟩:∃ a c,v = .slice a b.length c∧b.length≤c∧c≤maxLen:=by
  obtain ⟨a,c,h1,h2,h3,_⟩:=id hv;exact ⟨a,c,h1,h2,h3⟩
 clear hv W8 hzz ll;generalize YM b=X at *
 unfold Df at HX;go_enter Tryz.func94,Tryz.ntmps94;go_upto_region 2 with (with_reducible refine ZU 79 (.tmp 6) (.tmp 13) rfl ?_;refine Zs hz ?_)
 clear hz;generalize ((w.alloc (.cells (Qb false 0 0 0 0 none 0 0 false 0 none 0 0 none 0 0 0) 79)).alloc (.cells (Qb false 0 0 0 0 none 0 0 false 0 none 0 0 none 0 0 0) 79)).setRow (w.heap.size+1) (Qb false 0 0 0 0 none 0 0 false 0 none 0 0 none 0 0 0)=w1 at *
 by_cases h1:512<b.length
 ·have l1:decide ((512:Int)<(b.length:Int))=true:=Wi Zo;have VA:Hid (X=(WT,5)):=by show _=_;rw [HX.o,ZR h1]
  have TZ:=HP.o.z;have UF:=HP.o.Y8;go_wp2_with (first|(with_reducible refine Zj 79 (.tmp 6) rfl ?_;refine Zl TZ Tryz.underlying79 ?_)|(with_reducible refine ZU 79 (.tmp 2) (.tmp 18) rfl ?_;refine Zs UF ?_))
  refine VD (v:= .tuple (Q0 (Qb false 0 0 0 0 none 0 0 false 0 none 0 0 none 0 0 0) 0 0 5)) ?_ rfl ?_
  ·exact Yt28
  first|exact UD.o _ 5 HP.o.Zg VA.o|(obtain ⟨⟨a,f,t,k1,k2⟩,k3⟩:=UD.o _ 5 HP.o.Zg VA.o;exact ⟨⟨a,⟨f,t,k1⟩,k2⟩,k3⟩)
 have l1:decide ((512:Int)<(b.length:Int))=false:=WI Zo;by_cases h2:b.length<12
 ·have l2:decide ((b.length:Int)<12)=true:=Wi Zo;have VA:Hid (X=(WT,2)):=by show _=_;rw [HX.o,Z4 h1,ZR h2]
  have TZ:=HP.o.z;have UF:=HP.o.Y8;go_wp2_with (first|(with_reducible refine Zj 79 (.tmp 6) rfl ?_;refine Zl TZ Tryz.underlying79 ?_)|(with_reducible refine ZU 79 (.tmp 2) (.tmp 23) rfl ?_;refine Zs UF ?_))
  exact Yt1
 have l2:decide ((b.length:Int)<12)=false:=WI Zo;rw [Z4 h1,Z4 h2] at HX;obtain ⟨g,off,cap,e1,_,_,hc⟩:=RR (HV.o w1 HP.o.Zg) Zo;cases e1;have d0:=hc 0 Zo;have d1:=hc 1 Zo
 have HD:Hid (∀ w',Below w w w'→∀ j,j<b.length→w'.cell? ⟨g,off+j,none⟩=some (.int .u8 (at8 b j:Int))):=fun w' h j hj=>by
  obtain ⟨_,_,_,e,_,_,hc⟩:=RR (HV.o w' h) Zo;cases e;exact hc j hj
 rw [Nat.add_zero] at d0;have i0:(0:Int)<(b.length:Int):=by omega
 have i1:(1:Int)<(b.length:Int):=by omega
 have r0:=Xl b 0;have r1:=Xl b 1;clear hc;obtain ⟨x0,QI⟩:∃ x,x=at8 b 0:=⟨_,rfl⟩;obtain ⟨x1,SJ⟩:∃ x,x=at8 b 1:=⟨_,rfl⟩;have eT:Hid (∀ w',Below w w w'→w'.cell? ⟨g,off,none⟩=some (.int .u8 (x0:Int))∧w'.cell? ⟨g,off+1,none⟩=some (.int .u8 (x1:Int))):=fun w' h=>⟨by have k:=HD.o w' h 0 Zo;rw [Nat.add_zero,←QI] at k;exact k,by rw [SJ];exact HD.o w' h 1 Zo⟩
 rw [←QI] at d0 r0;rw [←SJ] at d1 r1;by_cases h3:x0<128∨191<x0
 ·by_cases h3a:x0<128
  case' pos=>have q3:decide ((x0:Int)<128)=true:=Wi Zo
  case' neg=>have q3:decide ((x0:Int)<128)=false:=WI Zo;have q4:decide ((191:Int)<(x0:Int))=true:=Wi Zo
  all_goals
   have VA:Hid (X=(WT,1)):=by show _=_;rw [HX.o,ZR (by rw [←QI];exact h3)]
   have TZ:=HP.o.z;have UF:=HP.o.Y8;go_wp2_with (first|(with_reducible refine Zj 79 (.tmp 6) rfl ?_;refine Zl TZ Tryz.underlying79 ?_)|(with_reducible refine ZU 79 (.tmp 2) (.tmp 35) rfl ?_;refine Zs UF ?_))
   refine VD (v:= .tuple (Q0 (Qb false 0 0 0 0 none 0 0 false 0 none 0 0 none 0 0 0) 0 0 1)) ?_ rfl ?_
   ·exact UL (p:=2) (u:=3) (v:=4) (x:=5) Zr _ _ w.heap.size 79 (Qb false 0 0 0 0 none 0 0 false 0 none 0 0 none 0 0 0) (0,0) _ Zr (setRow_heap _ _ _ _ _ _ UF) Tryz.underlying79 rfl Zk
   first|exact UD.o _ 1 HP.o.Zg VA.o|(obtain ⟨⟨a,f,t,k1,k2⟩,k3⟩:=UD.o _ 1 HP.o.Zg VA.o;exact ⟨⟨a,⟨f,t,k1⟩,k2⟩,k3⟩)
 have q3:decide ((x0:Int)<128)=false:=WI Zo;have q4:decide ((191:Int)<(x0:Int))=false:=WI Zo;rw [Z4 (by rw [←QI];exact h3)] at HX;by_cases h4:192≤x1∧x1≤223
 ·try (exfalso;omega)
  all_goals
   have q5:decide ((192:Int)≤(x1:Int))=true:=Wi Zo;have q6:decide ((x1:Int)≤223)=true:=Wi Zo;have VA:Hid (X=(WT,4)):=by show _=_;rw [HX.o,ZR (by rw [←SJ];exact h4)]
   have TZ:=HP.o.z;have UF:=HP.o.Y8;go_wp2_with (first|(with_reducible refine Zj 79 (.tmp 6) rfl ?_;refine Zl TZ Tryz.underlying79 ?_)|(with_reducible refine ZU 79 (.tmp 2) (.tmp 47) rfl ?_;refine Zs UF ?_))
   refine VD (v:= .tuple (Q0 (Qb false 0 0 0 0 none 0 0 false 0 none 0 0 none 0 0 0) 0 0 4)) ?_ rfl ?_
   ·exact UL (p:=2) (u:=3) (v:=4) (x:=5) Zr _ _ w.heap.size 79 (Qb false 0 0 0 0 none 0 0 false 0 none 0 0 none 0 0 0) (0,0) _ Zr (setRow_heap _ _ _ _ _ _ UF) Tryz.underlying79 rfl Zk
   first|exact UD.o _ 4 HP.o.Zg VA.o|(obtain ⟨⟨a,f,t,k1,k2⟩,k3⟩:=UD.o _ 4 HP.o.Zg VA.o;exact ⟨⟨a,⟨f,t,k1⟩,k2⟩,k3⟩)
 rw [Z4 (by rw [←SJ];exact h4)] at HX;obtain ⟨sq,hsq⟩:∃ x:Nat,x=get b 2 2:=⟨_,rfl⟩;obtain ⟨tm,dR⟩:∃ x:Nat,x=get b 4 4:=⟨_,rfl⟩;obtain ⟨sr,dL⟩:∃ x:Nat,x=get b 8 4:=⟨_,rfl⟩;have C2:=Zh (fun (w':World) (h:Below w w w')=>CR.o 2 2 w' h);have C4:=Zh (fun (w':World) (h:Below w w w')=>CR.o 4 4 w' h);have C8:=Zh (fun (w':World) (h:Below w w w')=>CR.o 8 4 w' h);rw [←hsq] at C2;rw [←dR] at C4;rw [←dL] at C8;have bsq:IntKind.u16.wrap (sq:Int)=(sq:Int):=by have:=MX b 2;rw [IntKind.wrap_u16];omega
 have btm:IntKind.u32.wrap (tm:Int)=(tm:Int):=by have:=WW b 4;rw [NI];omega
 have bsr:IntKind.u32.wrap (sr:Int)=(sr:Int):=by have:=WW b 8;rw [NI];omega
 have HH:Hid (sq=get b 2 2∧tm=get b 4 4∧sr=get b 8 4∧x0=at8 b 0∧x1=at8 b 1):=⟨hsq,dR,dL,QI,SJ⟩;obtain ⟨ty,H'⟩:∃ x:Nat,x=x1 % 128:=⟨_,rfl⟩;obtain ⟨mk,gS⟩:∃ x:Bool,x=decide (128≤x1):=⟨_,rfl⟩;obtain ⟨cc,hcc2⟩:∃ x:Nat,x=x0 % 16:=⟨_,rfl⟩;have p1:(x1:Int).tmod 128=(ty:Int):=by rw [Int.tmod_eq_emod_of_nonneg Zo];omega
 have p1c:(x1:Int) % 128=(ty:Int):=by omega
 have p1b:IntKind.i64.wrap (ty:Int)=(ty:Int):=Tm _ Zo;have p2:decide ((128:Int)≤(x1:Int))=mk:=by rw [gS,Bool.eq_iff_iff,Pz,Pz];omega
 have p3:(x0:Int).tmod 16=(cc:Int):=by rw [Int.tmod_eq_emod_of_nonneg Zo];omega
 have p3c:(x0:Int) % 16=(cc:Int):=by omega
 have p3b:IntKind.i64.wrap (cc:Int)=(cc:Int):=Tm _ Zo;have hcc16:cc<16:=by omega
 have HM:Hid (ty=x1 % 128∧mk=decide (128≤x1)∧cc=x0 % 16):=⟨H',gS,hcc2⟩;have J_:¬b.length<12:=h2;have hb512:¬512<b.length:=h1;first
 | (have q5:decide ((192:Int)≤(x1:Int))=false:=WI Zo)
 | (have q5:decide ((192:Int)≤(x1:Int))=true:=Wi Zo;have q6:decide ((x1:Int)≤223)=false:=WI Zo)
 clear hsq dR dL QI SJ H' gS hcc2 h1 h2 h3 h4 sA;go_upto_region 10 with fail
 have zc:=cell_of HP.o.Y8 1;simp only [SE,SD,R8] at zc;have fc:=ZO HP.o.Y8 1;go_upto_region 11 with fail
 have HP:Hid (PG w (w1.setCell ⟨w,1,none⟩ (.int .i64 (ty:Int))) (Qb false (ty:Int) 0 0 0 none 0 0 false 0 none 0 0 none 0 0 0)):=HP.o.set 1 (.int .i64 (ty:Int));clear zc fc;generalize w1.setCell ⟨w,1,none⟩ (.int .i64 (ty:Int))=w2 at *
 obtain ⟨d0,d1⟩:=eT.o w2 HP.o.Zg;have zc:=cell_of HP.o.Y8 0;simp only [SE,SD,R8] at zc;have fc:=ZO HP.o.Y8 0;go_upto_region 12 with fail
 have HP:Hid (PG w (w2.setCell ⟨w,0,none⟩ (.bool mk)) (Qb mk (ty:Int) 0 0 0 none 0 0 false 0 none 0 0 none 0 0 0)):=HP.o.set 0 (.bool mk);clear zc fc;generalize w2.setCell ⟨w,0,none⟩ (.bool mk)=w3 at *
 have zc:=cell_of HP.o.Y8 2;simp only [SE,SD,R8] at zc;have fc:=ZO HP.o.Y8 2;go_upto_region 13 with (go_at_call 118;refine (C2.o _ HP.o.Zg).mono ?_;rintro e w' ⟨rfl,rfl⟩)
 have HP:Hid (PG w (w3.setCell ⟨w,2,none⟩ (.int .u16 (sq:Int))) (Qb mk (ty:Int) (sq:Int) 0 0 none 0 0 false 0 none 0 0 none 0 0 0)):=HP.o.set 2 (.int .u16 (sq:Int));clear zc fc;generalize w3.setCell ⟨w,2,none⟩ (.int .u16 (sq:Int))=w4 at *
 have zc:=cell_of HP.o.Y8 3;simp only [SE,SD,R8] at zc;have fc:=ZO HP.o.Y8 3;go_upto_region 14 with (go_at_call 118;refine (C4.o _ HP.o.Zg).mono ?_;rintro e w' ⟨rfl,rfl⟩)
 have HP:Hid (PG w (w4.setCell ⟨w,3,none⟩ (.int .u32 (tm:Int))) (Qb mk (ty:Int) (sq:Int) (tm:Int) 0 none 0 0 false 0 none 0 0 none 0 0 0)):=HP.o.set 3 (.int .u32 (tm:Int));clear zc fc;generalize w4.setCell ⟨w,3,none⟩ (.int .u32 (tm:Int))=w5 at *
 have zc:=cell_of HP.o.Y8 4;simp only [SE,SD,R8] at zc;have fc:=ZO HP.o.Y8 4;go_upto_region 15 with (go_at_call 118;refine (C8.o _ HP.o.Zg).mono ?_;rintro e w' ⟨rfl,rfl⟩)
 have HP:Hid (PG w (w5.setCell ⟨w,4,none⟩ (.int .u32 (sr:Int))) (Qb mk (ty:Int) (sq:Int) (tm:Int) (sr:Int) none 0 0 false 0 none 0 0 none 0 0 0)):=HP.o.set 4 (.int .u32 (sr:Int));clear zc fc;generalize w5.setCell ⟨w,4,none⟩ (.int .u32 (sr:Int))=w6 at *
 obtain ⟨d0,d1⟩:=eT.o w6 HP.o.Zg;clear C2 C4 C8 bsq btm bsr p1 p1c p1b p2 q3 q4 q5;go_wp2_with fail
 clear d0 d1 p3 p3c p3b;go_loopw [7,8] (fun s7 s8 w'=>∃ (i pos k:Nat) (a:Option Addr) (q:Nat),i+k=cc∧pos=12+4*i∧pos≤b.length∧s7 = .int .i64 (pos:Int)∧s8 = .int .i64 (k:Int)∧PG w w' (Qb mk (ty:Int) (sq:Int) (tm:Int) (sr:Int) a i q false 0 none 0 0 none 0 0 0)∧w'.ownsRow w 66 1 (.slice a i q) i (YO (zD b i))) (fun _ s8 _=>(intOf s8).toNat)
 case atStart=>exact ⟨0,12,cc,none,0,Zo,Zo,Zo,rfl,rfl,HP.o,TY _ _ _ _⟩
 case round=>
  obtain ⟨i,pos,k,a,q,hik,QF,oI,rfl,rfl,Ed,YH⟩:=hrel;have HP:=Zh Ed;have HO:=Zh YH;clear Ed YH;by_cases gN:0<k
  ·have dk:decide ((0:Int)<(k:Int))=true:=Wi Zo;have gX:IntKind.i64.wrap ((pos:Int)+4)=(pos:Int)+4:=Tm _ Zo;by_cases h7:b.length<pos+4
   ·have l7:decide ((b.length:Int)<(pos:Int)+4)=true:=Wi Zo;have VA:Hid (X=(WT,2)):=by show _=_;rw [HX.o,ZR (by have:=HM.o.2.2;have:=HH.o.2.2.2.1;omega)]
    have TZ:=HP.o.z;have UF:=HP.o.Y8;go_wp2_with (first|(with_reducible refine Zj 79 (.tmp 6) rfl ?_;refine Zl TZ Tryz.underlying79 ?_)|(with_reducible refine ZU 79 (.tmp 2) (.tmp 85) rfl ?_;refine Zs UF ?_))
    exact Yt1
   have l7:decide ((b.length:Int)<(pos:Int)+4)=false:=WI Zo;obtain ⟨y0,dW⟩:∃ x:Nat,x=get b (pos:Int) 4:=⟨_,rfl⟩
   have LQ:Hid (zD b (i+1)=zD b i++[(y0:Int)]):=by
    show _=_;rw [dW,QF];unfold zD;rw [qE,NR];simp
   have C0:=Zh (fun (w':World) (h:Below w w w')=>CR.o (pos:Int) 4 w' h);rw [←dW] at C0;have NT:IntKind.u32.wrap (y0:Int)=(y0:Int):=by have:=WW b (pos:Int);rw [NI];omega
   have hkm:IntKind.i64.wrap ((k:Int)-1)=((k-1:Nat):Int):=by rw [Tm _ Zo];omega
   have Ej:pos≤512:=by omega
   have NL:Hid (i+k=cc∧pos=12+4*i∧0<k∧pos+4≤b.length):=⟨hik,QF,gN,Zo⟩;have hi16:i≤16:=by omega
   clear QF dW hik oI h7;go_upto_region 21 with fail
   have HP:=Zh (HP.o.below (YJ _ _).drew);have HO:=Zh (Yw HO.o (YJ _ _).drew);have k0:(wr.drew).cell? ⟨w,5,none⟩=some (.slice a i q):=Zc HP.o.Y8 5 rfl;refine SX ?_;refine Z_.Zy (d:=9) (S:=(fun w'=>w'.cell? ⟨w,5,none⟩=some (.slice a i q))) Zk ?_ (fun Ye=>?_)
   ·exact k0
   refine YP 0 (h:=YP 2 (h:=YP 3 (h:=YK 1 (h:=?_))));refine YR 4 (h:=fun K hK=>?_);go_simp;refine (C0.o _ HP.o.Zg).mono ?_;rintro e w' ⟨rfl,rfl⟩;go_wp2_with fail
   refine Z_.Zb hK _ _ ?_ (fun XU=>?_)
   ·exact k0
   clear hK K;try simp only [Z_.pt]
   refine YP 5 (h:=?_);refine YR 6 (h:=fun K hK=>?_);refine Ym Zr Vo (.tmp 91) Zr (.int .u32 (y0:Int)) Zr rfl ?_;have HP:=Zh (HP.o.below (Z' wr.drew (.cells #[.int .u32 (y0:Int)] 66)));have HO:=Zh (Yw HO.o (Z' wr.drew (.cells #[.int .u32 (y0:Int)] 66)));have k1:=cell_of HP.o.Y8 5;simp only [SE,SD,R8] at k1;refine Z_.Zb hK _ _ ?_ (fun VG=>?_)
   ·exact k1
   clear hK K;try simp only [Z_.pt]
   refine YR 7 (h:=fun K hK=>?_);refine Zp Zr (.tmp 87) (.tmp 92) 29 Zr w.heap.size Vo (.slice a i q) i (YO (zD b i)) Zr HO.o _ 1 (YO [(y0:Int)]) Zr (Vz wr.drew 66 1 (YO [(y0:Int)]) Zd) rfl (Kt _) Zo Zo ?_ ?_
   ·exact HP.o.Zg.size
   intro v' w7 IK yP;obtain ⟨na,nq,NK,-⟩:=Row.Z6 IK.o;subst NK;have HP:=Zh (HP.o.grown HO.o Zd yP.o);have HO:Hid (w7.ownsRow w 66 1 (.slice na (i+1) nq) (i+1) (YO (zD b i++[(y0:Int)]))):=(by have h:=IK.o;rw [show YO (zD b i)++YO [(y0:Int)]=YO (zD b i++[(y0:Int)]) from (NR ..).symm] at h;exact h);have k2:=cell_of HP.o.Y8 5;simp only [SE,SD,R8] at k2;have f2:=ZO HP.o.Y8 5;refine Z_.Zb hK _ _ ?_ (fun Nj=>?_)
   ·exact k2
   clear hK K;try simp only [Z_.pt]
   refine YP 8 (h:=?_);refine YR 9 (h:=fun K hK=>?_);go_simp;refine Z_.Yk hK _ _ Zk ?_;clear hK K;try simp only [Z_.pt]
   refine Z_.YC Zk ?_ _;refine RA ?_;go_wp2_with fail
   go_roundw
   case rel=>
    refine ⟨i+1,pos+4,k-1,na,nq,by have:=NL.o;omega,by have:=NL.o;omega,by have:=NL.o;omega,Zn,rfl,HP.o.set 5 (.slice na (i+1) nq),?_⟩;rw [LQ.o];exact tj HO.o HP.o.Y8 Zd _ _
   case measure=>have:=NL.o;simp [intOf];omega
  ·obtain rfl:k=0:=by omega
   obtain rfl:i=cc:=by omega
   have Sz:=Zh (Row.Z6 HO.o);have NL:Hid (pos=12+4*i∧pos≤b.length):=⟨QF,oI⟩;have Ej:pos≤512:=by omega
   obtain ⟨d0,d1⟩:=eT.o wr HP.o.Zg;obtain ⟨y,hy⟩:∃ y:Nat,y=x0 / 16:=⟨_,rfl⟩;have p1:IntKind.u8.wrap ((x0:Int) / 16)=(y:Int):=by rw [IntKind.wrap_u8];omega
   have qO:(y % 2=1)↔at8 b 0 / 16 % 2=1:=by rw [hy,HH.o.2.2.2.1]
   have DI:=Zh qO;clear HO hik QF oI gN qO hy;have HKE:Hid (WU b=if at8 b 0 / 16 % 2=1 then pos+4+4*get b ((pos:Int)+2) 2 else pos):=by show _=_;unfold WU;rw [NL.o.1,HM.o.2.2,HH.o.2.2.2.1]
   have HKX:Hid (Ua b=if at8 b 0 / 16 % 2=1 then pos+4 else pos):=by show _=_;unfold Ua;rw [NL.o.1,HM.o.2.2,HH.o.2.2.2.1]
   have ug:Hid (X=if at8 b 0 / 16 % 2=1∧b.length<pos+4 then (WT,2) else if b.length<WU b then (WT,2) else if at8 b 0 / 32 % 2=1∧(WU b=b.length∨at8 b (b.length-1)=0∨b.length-WU b<at8 b (b.length-1)) then (WT,1) else if at8 b 0 / 32 % 2=1∧¬(((b.drop (b.length-at8 b (b.length-1))).take (at8 b (b.length-1)-1)).all (fun x=>decide (x=0))=true) then (WT,1) else (TH b (Ua b,WU b,b.length-Td b),0)):=by
    have e:12+4*(at8 b 0 % 16)=pos:=by rw [NL.o.1,HM.o.2.2,HH.o.2.2.2.1]
    show _=_;rw [HX.o,e,Z4 (by have:=NL.o.2;omega)]
   clear HX;go_upto_if 102 with fail
   go_cut [7] (fun s7 wx=>∃ (hx:Bool) (pf:Nat) (ev:Value),s7 = .int .i64 ((WU b:Nat):Int)∧WU b≤b.length∧¬(at8 b 0 / 16 % 2=1∧b.length<pos+4)∧hx=decide (at8 b 0 / 16 % 2=1)∧pf=(if at8 b 0 / 16 % 2=1 then get b (pos:Int) 2 else 0)∧PG w wx [.bool mk,.int .i64 (ty:Int),.int .u16 (sq:Int),.int .u32 (tm:Int),.int .u32 (sr:Int),.slice a i q,.bool hx,.int .u16 (pf:Int),ev,.slice none 0 0,.int .i64 0]∧Row wx 66 (.slice a i q) i (YO (zD b i))∧Row wx 5 ev (O4 b).length (RD (O4 b)))
   case first=>
    by_cases hex:at8 b 0 / 16 % 2=1
    rotate_left
    ·have d9:((y:Int).tmod 2 == 1)=false:=by rw [WR,Int.tmod_eq_emod_of_nonneg Zo];intro h;exact hex (DI.o.1 Zo)
     have d9c:((y:Int) % 2 == 1)=false:=by rw [WR];intro h;exact hex (DI.o.1 Zo)
     have d9d:((x0:Int) / 16 % 2 == 1)=false:=by rw [WR];intro h;have:=HH.o.2.2.2.1;exact hex Zo
     go_wp2_with fail
     go_meet;have e1:=HKE.o;rw [Z4 hex] at e1;exact ⟨false,0,.slice none 0 0,by rw [e1],by rw [e1];exact NL.o.2,fun h=>hex h.1,(WI hex).symm,(Z4 hex).symm,HP.o,Sz.o,by rw [show O4 b=[] from Z4 hex];exact Row.nil _ _⟩
    ·have d9:((y:Int).tmod 2 == 1)=true:=by rw [beq_iff_eq,Int.tmod_eq_emod_of_nonneg Zo];have:=DI.o.2 hex;omega
     have d9c:((y:Int) % 2 == 1)=true:=by rw [beq_iff_eq];have:=DI.o.2 hex;omega
     have d9d:((x0:Int) / 16 % 2 == 1)=true:=by rw [beq_iff_eq];have:=HH.o.2.2.2.1;omega
     have gX:IntKind.i64.wrap ((pos:Int)+4)=(pos:Int)+4:=Tm _ Zo;by_cases h8:b.length<pos+4
     ·have l7:decide ((b.length:Int)<(pos:Int)+4)=true:=Wi Zo;have VA:Hid (X=(WT,2)):=by show _=_;rw [ug.o,ZR ⟨hex,h8⟩]
      have TZ:=HP.o.z;have UF:=HP.o.Y8;go_wp2_with (first|(with_reducible refine Zj 79 (.tmp 6) rfl ?_;refine Zl TZ Tryz.underlying79 ?_)|(with_reducible refine ZU 79 (.tmp 2) (.tmp 108) rfl ?_;refine Zs UF ?_))
      exact Yt1
     have l8:decide ((b.length:Int)<(pos:Int)+4)=false:=WI Zo;obtain ⟨nw,hnw⟩:∃ x:Nat,x=get b ((pos:Int)+2) 2:=⟨_,rfl⟩;obtain ⟨pf,dE⟩:∃ x:Nat,x=get b (pos:Int) 2:=⟨_,rfl⟩;have hn16:nw<65536:=by rw [hnw];exact MX b _
     have C9:=Zh (fun (w':World) (h:Below w w w')=>CR.o ((pos:Int)+2) 2 w' h);have CF:=Zh (fun (w':World) (h:Below w w w')=>CR.o (pos:Int) 2 w' h);rw [←hnw] at C9;rw [←dE] at CF;have s2:IntKind.i64.wrap ((pos:Int)+2)=(pos:Int)+2:=Tm _ Zo;have s3:IntKind.i64.wrap (nw:Int)=(nw:Int):=Tm _ Zo;have s4:IntKind.i64.wrap (4*(nw:Int))=4*(nw:Int):=Tm _ Zo;obtain ⟨Z,hZ⟩:∃ Z:Nat,Z=pos+4+4*nw:=⟨_,rfl⟩;have s5:IntKind.i64.wrap ((pos:Int)+4+4*(nw:Int))=(Z:Int):=by rw [Tm _ Zo];omega
     have s6:IntKind.i64.wrap (4+4*(nw:Int))=4+4*(nw:Int):=Tm _ Zo;have s7:IntKind.i64.wrap ((pos:Int)+(4+4*(nw:Int)))=(Z:Int):=by rw [Tm _ Zo];omega
     have s8:IntKind.u16.wrap (pf:Int)=(pf:Int):=by rw [dE];have:=MX b (pos:Int);rw [IntKind.wrap_u16];omega
     have IM:Hid (WU b=Z):=by show _=_;rw [HKE.o,ZR hex,hZ,hnw]
     have HPF:=Zh dE;have au:pos+4≤Z:=by omega
     clear hnw dE hZ;by_cases h9:b.length<Z
     ·have l9:decide ((b.length:Int)<(Z:Int))=true:=Wi Zo;have VA:Hid (X=(WT,2)):=by show _=_;rw [ug.o,Z4 (fun h=>h8 h.2),ZR (by rw [IM.o];exact h9)]
      have TZ:=HP.o.z;have UF:=HP.o.Y8;go_wp2_with (first|(go_at_call 118;refine (C9.o _ HP.o.Zg).mono ?_;rintro e w' ⟨rfl,rfl⟩)|(with_reducible refine Zj 79 (.tmp 6) rfl ?_;refine Zl TZ Tryz.underlying79 ?_)|(with_reducible refine ZU 79 (.tmp 2) (.tmp 122) rfl ?_;refine Zs UF ?_))
      exact Yt1
     have l9:decide ((b.length:Int)<(Z:Int))=false:=WI Zo;obtain ⟨vs,Uw,IB⟩:=Wk (P:=Tryz.prog) VF (some ⟨g,off,none⟩) b.length c (pos+4) Z au Zo R4;have ah:∀ w,(Instr.slice 30 (.slice (some ⟨g,off,none⟩) b.length c) (some (.int .i64 ((pos:Int)+4))) (some (.int .i64 (Z:Int))) none).run Tryz.prog w = .ok (.slice vs (Z-(pos+4)) (c-(pos+4))) w:=Uw;obtain ⟨m,hm⟩:∃ m:Nat,m=Z-(pos+4):=⟨_,rfl⟩;obtain ⟨c',K5⟩:∃ m:Nat,m=c-(pos+4):=⟨_,rfl⟩;have Ef:((b.drop (pos+4)).take (Z-(pos+4))).length=m:=by rw [S4,Rg,hm];omega
     have lU:Hid (∀ w',Below w w w'→XR w' (.slice vs m c') m (RD ((b.drop (pos+4)).take (Z-(pos+4))))):=fun w' h=>by
      have h2:X6 w' _ _:=Oz Zo au IB (HV.o w' h);rw [←hm,←K5] at h2;have h3:XR w' _ _ _:=h2;rw [←hm] at Ef;rw [Ef] at h3;rw [hm];rw [hm] at h3;exact h3
     rw [←hm,←K5] at ah;have HEB:Hid (O4 b=(b.drop (pos+4)).take (Z-(pos+4))):=by show _=_;unfold O4;rw [ZR hex,IM.o,HKX.o,ZR hex]
     have gQ:m≤512:=by omega
     generalize (b.drop (pos+4)).take (Z-(pos+4))=xb at *
     have yq:=Zh Ef;clear Uw IB hm K5 Ef;have zc:=cell_of HP.o.Y8 6;simp only [SE,SD,R8] at zc;have fc:=ZO HP.o.Y8 6;have Bx:=HP;go_upto_region 30 with (go_at_call 118;refine (C9.o _ HP.o.Zg).mono ?_;rintro e w' ⟨rfl,rfl⟩)
     have HP:Hid (PG w (wr.setCell ⟨w,6,none⟩ (.bool true)) (Qb mk (ty:Int) (sq:Int) (tm:Int) (sr:Int) a i q true 0 none 0 0 none 0 0 0)):=HP.o.set 6 (.bool true);have Sz:=Zh (QZ Sz.o Bx.o.Y8 Zd 6 (.bool true));clear zc fc Bx;generalize wr.setCell ⟨w,6,none⟩ (.bool true)=w7 at *
     have zc:=cell_of HP.o.Y8 7;simp only [SE,SD,R8] at zc;have fc:=ZO HP.o.Y8 7;have Bx:=HP;go_upto_region 31 with (go_at_call 118;refine (CF.o _ HP.o.Zg).mono ?_;rintro e w' ⟨rfl,rfl⟩)
     have HP:Hid (PG w (w7.setCell ⟨w,7,none⟩ (.int .u16 (pf:Int))) (Qb mk (ty:Int) (sq:Int) (tm:Int) (sr:Int) a i q true (pf:Int) none 0 0 none 0 0 0)):=HP.o.set 7 (.int .u16 (pf:Int));have Sz:=Zh (QZ Sz.o Bx.o.Y8 Zd 7 (.int .u16 (pf:Int)));clear zc fc Bx;generalize w7.setCell ⟨w,7,none⟩ (.int .u16 (pf:Int))=w8 at *
     have HBR8:=Zh (lU.o w8 HP.o.Zg);go_wp2_with (at_builtin;refine QB rfl (.const (.slice none 0 0)) (.tmp 136) 30 rfl w.heap.size VF (.slice none 0 0) 0 [] rfl (TY _ _ _ _) (.slice vs m c') m (RD xb) rfl HBR8.o (by rw [Xh,yq.o,Nat.mul_one]) (BU _) Zo Zo HP.o.Zg.size (fun v9 w9 yR qU=>?_);obtain ⟨ea,ec,cP⟩:=Row.form (Row.Z6 yR.o);subst cP;have ql:=Zh (I_ qU.o);have mo:=Zh (HP.o.below ql.o);have bo:=Zh (Row.below Sz.o ql.o);have zc:=cell_of mo.o.Y8 8;simp only [SE,SD,R8] at zc;have fc:=ZO mo.o.Y8 8)
     go_meet;refine ⟨true,pf,.slice ea m ec,by rw [IM.o],by rw [IM.o];omega,fun h=>h8 h.2,(Wi hex).symm,by rw [ZR hex,HPF.o],mo.o.set 8 (.slice ea m ec),QZ bo.o mo.o.Y8 Zd 8 _,?_⟩;rw [HEB.o,yq.o];have h:=Row.Z6 yR.o;rw [QD,J2] at h;exact QZ h mo.o.Y8 Zd 8 _
   case rest=>
    clear NL DI Sz Ej p1 d0 d1;obtain ⟨hx,pf,ev,dK,oI,hnx,hhx,dE,Ed,yD,sH⟩:=hcut;obtain ⟨WC,rfl⟩:∃ W:World,W=wc:=⟨_,rfl⟩;subst dK;obtain ⟨xa,xc,rfl⟩:=Row.form sH;have HP:=Zh Ed;have Sz:=Zh yD;have rp:=Zh sH;have HXF:Hid (hx=decide (at8 b 0 / 16 % 2=1)∧pf=if at8 b 0 / 16 % 2=1 then get b (pos:Int) 2 else 0):=⟨hhx,dE⟩;have bz:Hid (X=if at8 b 0 / 32 % 2=1∧(WU b=b.length∨at8 b (b.length-1)=0∨b.length-WU b<at8 b (b.length-1)) then (WT,1) else if at8 b 0 / 32 % 2=1∧¬(((b.drop (b.length-at8 b (b.length-1))).take (at8 b (b.length-1)-1)).all (fun x=>decide (x=0))=true) then (WT,1) else (TH b (Ua b,WU b,b.length-Td b),0)):=by show _=_;rw [ug.o,Z4 hnx,Z4 Zo]
    obtain ⟨la,gP⟩:∃ x:Nat,x=at8 b (b.length-1):=⟨_,rfl⟩;obtain ⟨A,hA⟩:∃ x:Nat,x=WU b:=⟨_,rfl⟩;have hlaR:la<256:=by rw [gP];exact Xl b _
    obtain ⟨d0,d1⟩:=eT.o WC HP.o.Zg;have uG:WC.cell? ⟨g,off+(b.length-1),none⟩=some (.int .u8 (la:Int)):=by rw [gP];exact HD.o WC HP.o.Zg _ Zo
    obtain ⟨y,hy⟩:∃ y:Nat,y=x0 / 32:=⟨_,rfl⟩;have p1:IntKind.u8.wrap ((x0:Int) / 32)=(y:Int):=by rw [IntKind.wrap_u8];omega
    have HYY:Hid ((y % 2=1)↔at8 b 0 / 32 % 2=1):=by show _↔_;rw [hy,HH.o.2.2.2.1]
    rw [←gP,←hA] at bz;rw [←hA] at oI ⊢;clear Ed yD sH hhx dE hnx hy ug;obtain ⟨L1,hL1⟩:∃ x:Nat,x=b.length-1:=⟨_,rfl⟩;obtain ⟨D,hD⟩:∃ x:Nat,x=b.length-A:=⟨_,rfl⟩;have FX:Hid (L1=b.length-1∧D=b.length-A∧la=at8 b (b.length-1)∧A=WU b):=⟨hL1,hD,gP,hA⟩;have W8:b.length≤512:=by omega
    have YY:1≤b.length:=by omega
    rw [←hL1] at uG;have s1:IntKind.i64.wrap ((b.length:Int)-1)=(L1:Int):=by rw [Tm _ Zo];omega
    have s2:IntKind.i64.wrap (la:Int)=(la:Int):=Tm _ Zo;have s3:IntKind.i64.wrap ((b.length:Int)-(A:Int))=(D:Int):=by rw [Tm _ Zo];omega
    have i8:(L1:Int)<(b.length:Int):=by omega
    have i9:(0:Int)≤(L1:Int):=qD L1;have i7:L1<b.length:=by omega
    have hDL:D≤b.length:=by omega
    clear hL1 hD gP hA;go_upto_if 150 with fail
    go_cut [10] (fun s10 wx=>s10 = .int .i64 ((b.length-Td b:Nat):Int)∧A≤b.length-Td b∧(Td b≤255∧Td b≤b.length)∧X=(TH b (Ua b,A,b.length-Td b),0)∧PG w wx (Qb mk (ty:Int) (sq:Int) (tm:Int) (sr:Int) a i q hx (pf:Int) xa (O4 b).length xc none 0 0 ((Td b:Nat):Int))∧Row wx 66 (.slice a i q) i (YO (zD b i))∧Row wx 5 (.slice xa (O4 b).length xc) (O4 b).length (RD (O4 b)))
    case first=>
     by_cases nS:at8 b 0 / 32 % 2=1
     rotate_left
     ·have d9:((y:Int).tmod 2 == 1)=false:=by rw [WR,Int.tmod_eq_emod_of_nonneg Zo];intro h;exact nS (HYY.o.1 Zo)
      have d9c:((y:Int) % 2 == 1)=false:=by rw [WR];intro h;exact nS (HYY.o.1 Zo)
      have d9d:((x0:Int) / 32 % 2 == 1)=false:=by rw [WR];intro h;have:=HH.o.2.2.2.1;exact nS Zo
      have hp0:Td b=0:=Z4 nS;go_wp2_with fail
      go_meet;rw [hp0,Nat.sub_zero];exact ⟨rfl,oI,⟨by decide,Tk _⟩,by rw [bz.o,Z4 (fun h=>nS h.1),Z4 (fun h=>nS h.1),hp0,Nat.sub_zero],HP.o,Sz.o,rp.o⟩
     have d9:((y:Int).tmod 2 == 1)=true:=by rw [beq_iff_eq,Int.tmod_eq_emod_of_nonneg Zo];have:=HYY.o.2 nS;omega
     have d9c:((y:Int) % 2 == 1)=true:=by rw [beq_iff_eq];have:=HYY.o.2 nS;omega
     have d9d:((x0:Int) / 32 % 2 == 1)=true:=by rw [beq_iff_eq];have:=HH.o.2.2.2.1;omega
     have S0:Td b=la:=by unfold Td;rw [ZR nS,FX.o.2.2.1]
     by_cases NV:A=b.length∨la=0∨b.length-A<la
     ·rcases (show A=b.length∨(¬A=b.length∧la=0)∨(¬A=b.length∧¬la=0∧D<la) by have:=FX.o.2.1;omega) with hq1|⟨hq1,wJ⟩|⟨hq1,wJ,gY⟩
      case' inl=>have e1:((A:Int) == (b.length:Int))=true:=by rw [beq_iff_eq];omega
      case' inr.inl=>have e1:((A:Int) == (b.length:Int))=false:=by rw [WR];omega
      case' inr.inl=>have e2:((la:Int) == 0)=true:=by rw [beq_iff_eq];omega
      case' inr.inr=>have e1:((A:Int) == (b.length:Int))=false:=by rw [WR];omega
      case' inr.inr=>have e2:((la:Int) == 0)=false:=by rw [WR];omega
      case' inr.inr=>have e3:decide ((D:Int)<(la:Int))=true:=Wi Zo
      case' inr.inr=>have e3n:decide (D<la)=true:=Wi gY
      all_goals
       have VA:Hid (X=(WT,1)):=by show _=_;rw [bz.o,ZR ⟨nS,NV⟩]
       have TZ:=HP.o.z;have UF:=HP.o.Y8;go_wp2_with (first|(with_reducible refine Zj 79 (.tmp 6) rfl ?_;refine Zl TZ Tryz.underlying79 ?_)|(with_reducible refine ZU 79 (.tmp 2) (.tmp 174) rfl ?_;refine Zs UF ?_))
       refine VD (v:= .tuple (Q0 (Qb false 0 0 0 0 none 0 0 false 0 none 0 0 none 0 0 0) 0 0 1)) ?_ rfl ?_
       ·exact UL (p:=2) (u:=3) (v:=4) (x:=5) Zr _ _ w.heap.size 79 (Qb false 0 0 0 0 none 0 0 false 0 none 0 0 none 0 0 0) (0,0) _ Zr (setRow_heap _ _ _ _ _ _ UF) Tryz.underlying79 rfl Zk
       first|exact UD.o _ 1 HP.o.Zg VA.o|(obtain ⟨⟨a,f,t,k1,k2⟩,k3⟩:=UD.o _ 1 HP.o.Zg VA.o;exact ⟨⟨a,⟨f,t,k1⟩,k2⟩,k3⟩)
     have fq:Hid (X=if ¬(((b.drop (b.length-la)).take (la-1)).all (fun x=>decide (x=0))=true) then (WT,1) else (TH b (Ua b,A,b.length-Td b),0)):=by
      show _=_;rw [bz.o,Z4 (fun h=>NV h.2)];simp only [nS,true_and]
     have e1:((A:Int) == (b.length:Int))=false:=by rw [WR];omega
     have e2:((la:Int) == 0)=false:=by rw [WR];omega
     have e3:decide ((D:Int)<(la:Int))=false:=WI (by have:=FX.o.2.1;omega);have e3n:decide (D<la)=false:=WI (by have:=FX.o.2.1;omega);have hla1:1≤la:=by omega
     obtain ⟨E,hE⟩:∃ x:Nat,x=b.length-la:=⟨_,rfl⟩;have s4:IntKind.i64.wrap ((b.length:Int)-(la:Int))=(E:Int):=by rw [Tm _ Zo];omega
     have hAE:A≤E:=by have:=FX.o.2.1;omega
     have gi:E≤L1:=by have:=FX.o.1;omega
     obtain ⟨zv,Uw,IB⟩:=Wk (P:=Tryz.prog) VF (some ⟨g,off,none⟩) b.length c E L1 gi Zo R4;have ah:∀ w,(Instr.slice 30 (.slice (some ⟨g,off,none⟩) b.length c) (some (.int .i64 (E:Int))) (some (.int .i64 (L1:Int))) none).run Tryz.prog w = .ok (.slice zv (L1-E) (c-E)) w:=Uw;obtain ⟨m,hm⟩:∃ m:Nat,m=L1-E:=⟨_,rfl⟩;obtain ⟨c',K5⟩:∃ m:Nat,m=c-E:=⟨_,rfl⟩;have Ef:((b.drop E).take (L1-E)).length=m:=by rw [S4,Rg,hm];omega
     have lU:Hid (∀ w',Below w w w'→X6 w' (.slice zv m c') ((b.drop E).take (L1-E))):=fun w' h=>by
      have h2:X6 w' _ _:=Oz Zo gi IB (HV.o w' h);rw [←hm,←K5] at h2;rw [←hm] at Ef ⊢;exact h2
     have qT:Hid (X=if ¬(((b.drop E).take (L1-E)).all (fun x=>decide (x=0))=true) then (WT,1) else (TH b (Ua b,A,b.length-Td b),0)):=by
      show _=_;rw [fq.o,hE,show L1-(b.length-la)=la-1 by have:=FX.o.1;omega]
     rw [←hm,←K5] at ah;have gQ:m≤512:=by omega
     generalize (b.drop E).take (L1-E)=zb at *
     have yq:=Zh Ef;have E1:Hid (E=b.length-Td b∧Td b=la):=⟨by rw [hE,S0],S0⟩;clear Uw IB hm K5 Ef fq NV hE S0;have zc:=cell_of HP.o.Y8 10;simp only [SE,SD,R8] at zc;have fc:=ZO HP.o.Y8 10;go_upto_region 38 with fail
     have Sz:=Zh (QZ Sz.o HP.o.Y8 Zd 10 (.int .i64 (la:Int)));have rp:=Zh (QZ rp.o HP.o.Y8 Zd 10 (.int .i64 (la:Int)));have HP:Hid (PG w (WC.setCell ⟨w,10,none⟩ (.int .i64 (la:Int))) (Qb mk (ty:Int) (sq:Int) (tm:Int) (sr:Int) a i q hx (pf:Int) xa (O4 b).length xc none 0 0 (la:Int))):=HP.o.set 10 (.int .i64 (la:Int));clear zc fc;generalize WC.setCell ⟨w,10,none⟩ (.int .i64 (la:Int))=w8 at *
     have zc:=cell_of HP.o.Y8 10;simp only [SE,SD,R8] at zc;go_wp2_with fail
     clear zc;go_loopw [193] (fun eB w'=>∃ j:Nat,j≤m∧eB = .int .i64 (j:Int)∧w'=w8∧(zb.take j).all (fun x=>decide (x=0))=true) (fun eB _=>m-(intOf eB).toNat)
     case atStart=>exact ⟨0,Zo,rfl,rfl,by rw [List.take_zero];rfl⟩
     case round=>
      obtain ⟨j,hj,rfl,hwr,UO⟩:=hrel;subst hwr;by_cases zX:j<m
      rotate_left
      ·have Mc:zb.take j=zb:=FL (by rw [yq.o];omega);rw [Mc] at UO;have HFA:Hid (X=(TH b (Ua b,A,b.length-Td b),0)):=by show _=_;rw [qT.o,Z4 (fun h=>h UO)]
       have hjm2:j=m:=by omega
       subst hjm2;clear UO Mc;go_wp2_with fail
       go_meet;exact ⟨by rw [E1.o.1],by rw [←E1.o.1];exact hAE,⟨by rw [E1.o.2];omega,by rw [E1.o.2];have:=of_decide_eq_false e3n;omega⟩,HFA.o,by rw [E1.o.2];exact HP.o,Sz.o,rp.o⟩
      obtain ⟨g3,off3,cap3,e4,_,_,lu⟩:=RR (lU.o wr HP.o.Zg) (by rw [yq.o];omega);rw [yq.o] at e4;cases e4;have pd:=lu j (by rw [yq.o];exact zX);have zW:(j:Int)<(m:Int):=OP.2 zX;have hzj:zb[j]?=some (zb[j]'(by rw [yq.o];exact zX)):=Vb _;have hzt:=Rb hzj;have VQ:at8 zb j=(zb[j]'(by rw [yq.o];exact zX)).toNat:=by unfold at8;rw [SC,hzj];rfl
      generalize zb[j]'(by rw [yq.o];exact zX)=zj at *
      obtain ⟨u,hu⟩:∃ u:Nat,u=at8 zb j:=⟨_,rfl⟩;rw [←hu] at pd VQ;have HZJ:Hid (u=zj.toNat∧zb.take (j+1)=zb.take j++[zj]∧(zb.take j).all (fun x=>decide (x=0))=true):=⟨VQ,hzt,UO⟩;clear lu hzj hzt VQ hu UO;by_cases hu0:u=0
      rotate_left
      ·have e5:((u:Int) != 0)=true:=by rw [RQ];omega
       have VA:Hid (X=(WT,1)):=by show _=_;rw [qT.o,ZR (fun h=>by have h2:=List.all_eq_true.1 h zj (by have e:zj∈zb.take (j+1):=(by rw [HZJ.o.2.1];simp);exact List.mem_of_mem_take e);exact hu0 (by rw [HZJ.o.1];have h3:=of_decide_eq_true h2;rw [h3];rfl))]
       have TZ:=HP.o.z;have UF:=HP.o.Y8;go_wp2_with (first|(with_reducible refine Zj 79 (.tmp 6) rfl ?_;refine Zl TZ Tryz.underlying79 ?_)|(with_reducible refine ZU 79 (.tmp 2) (.tmp 199) rfl ?_;refine Zs UF ?_))
       refine VD (v:= .tuple (Q0 (Qb false 0 0 0 0 none 0 0 false 0 none 0 0 none 0 0 0) 0 0 1)) ?_ rfl ?_
       ·exact Yt28
       first|exact UD.o _ 1 HP.o.Zg VA.o|(obtain ⟨⟨a,f,t,k1,k2⟩,k3⟩:=UD.o _ 1 HP.o.Zg VA.o;exact ⟨⟨a,⟨f,t,k1⟩,k2⟩,k3⟩)
      have e5:((u:Int) != 0)=false:=by rw [bne_eq_false_iff_eq];omega
      have HU0:Hid (zj=0):=UInt8.toNat_inj.1 (by rw [←HZJ.o.1,hu0];rfl);clear hu0;go_wp2_with fail
      go_roundw
      case rel=>exact ⟨j+1,Zo,Zn,by first|rfl|trivial,by rw [HZJ.o.2.1,List.all_append,HZJ.o.2.2,HU0.o];rfl⟩
      case measure=>simp [intOf];omega
    case rest=>
     obtain ⟨hs10,hAE,⟨hp255,hplb⟩,hXF,Ed,yD,sH⟩:=hcut;obtain ⟨WD,rfl⟩:∃ W:World,W=wc:=⟨_,rfl⟩;subst hs10;obtain ⟨E,hE⟩:∃ x:Nat,x=b.length-Td b:=⟨_,rfl⟩;rw [←hE] at hAE hXF ⊢;have gi:E≤b.length:=by omega
     have E1:Hid ((b.length:Int)-(E:Int)=((Td b:Nat):Int)):=by show _=_;omega
     have HP:=Zh Ed;have Sz:=Zh yD;have rp:=Zh sH;have HXF2:=Zh hXF;obtain ⟨zv,Uw,IB⟩:=Wk (P:=Tryz.prog) VF (some ⟨g,off,none⟩) b.length c A E hAE gi R4;have ah:∀ w,(Instr.slice 30 (.slice (some ⟨g,off,none⟩) b.length c) (some (.int .i64 (A:Int))) (some (.int .i64 (E:Int))) none).run Tryz.prog w = .ok (.slice zv (E-A) (c-A)) w:=Uw;obtain ⟨m,hm⟩:∃ m:Nat,m=E-A:=⟨_,rfl⟩;obtain ⟨c',K5⟩:∃ m:Nat,m=c-A:=⟨_,rfl⟩;have Ef:((b.drop A).take (E-A)).length=m:=by rw [S4,Rg,hm];omega
     have lU:Hid (XR WD (.slice zv m c') m (RD ((b.drop A).take (E-A)))):=by
      have h2:X6 WD _ _:=Oz gi hAE IB (HV.o WD HP.o.Zg);rw [←hm,←K5] at h2;have h3:XR WD _ _ _:=h2;rw [←hm] at Ef ⊢;rw [Ef] at h3;exact h3
     have gQ:m≤512:=by omega
     have FZ:Hid (TH b (Ua b,A,E)=⟨mk,(ty:Int),(sq:Int),(tm:Int),(sr:Int),zD b i,hx,(pf:Int),O4 b,(b.drop A).take (E-A),((Td b:Nat):Int)⟩):=by
      obtain ⟨g1,g2,g3,g4,g5⟩:=HH.o;obtain ⟨g6,g7,g8⟩:=HM.o;obtain ⟨g9,g10⟩:=HXF.o
      have f7:(if at8 b 0 / 16 % 2=1 then (get b ((Ua b:Int)-4) 2:Int) else 0)=(pf:Int):=by
       rw [g10];by_cases h:at8 b 0 / 16 % 2=1
       ·rw [ZR h,ZR h,HKX.o,ZR h,show ((pos+4:Nat):Int)-4=(pos:Int) by omega]
       ·rw [Z4 h,Z4 h];rfl
      have f8:(if at8 b 0 / 16 % 2=1 then (b.drop (Ua b)).take (A-Ua b) else [])=O4 b:=by unfold O4;rw [FX.o.2.2.2]
      show TH b (Ua b,A,E)=_;have e:TH b (Ua b,A,E)=⟨decide (128≤at8 b 1),((at8 b 1 % 128:Nat):Int),(get b 2 2:Nat),(get b 4 4:Nat),(get b 8 4:Nat),zD b (at8 b 0 % 16),decide (at8 b 0 / 16 % 2=1),if at8 b 0 / 16 % 2=1 then (get b ((Ua b:Int)-4) 2:Int) else 0,if at8 b 0 / 16 % 2=1 then (b.drop (Ua b)).take (A-Ua b) else [],(b.drop A).take (E-A),(b.length:Int)-(E:Int)⟩:=rfl;rw [e,f7,f8,E1.o,←g1,←g2,←g3,←g9,←g4,←g5,←g6,←g7,←g8]
     rw [←hm] at FZ;rw [←hm] at lU;rw [←hm] at Ef;generalize (b.drop A).take m=xb at *
     rw [←hm,←K5] at ah;have yq:=Zh Ef;clear Uw IB hm K5 Ef hE Ed yD sH hXF hAE;go_wp2_with (first|(at_builtin;refine QB rfl (.const (.slice none 0 0)) (.tmp 204) 30 rfl w.heap.size VF (.slice none 0 0) 0 [] rfl (TY _ _ _ _) (.slice zv m c') m (RD xb) rfl lU.o (by rw [Xh,yq.o,Nat.mul_one]) (BU _) Zo Zo HP.o.Zg.size (fun v9 w9 yR qU=>?_);obtain ⟨ea,ec,cP⟩:=Row.form (Row.Z6 yR.o);subst cP;have ql:=Zh (I_ qU.o);have mo:=Zh (HP.o.below ql.o);have bo:=Zh (Row.below Sz.o ql.o);have HRE9:=Zh (Row.below rp.o ql.o);have zc:=cell_of mo.o.Y8 9;simp only [SE,SD,R8] at zc;have fc:=ZO mo.o.Y8 9;have UF:(w9.setCell ⟨w,9,none⟩ (.slice ea m ec)).heap[w.heap.size]?=some (.cells (Qb mk (ty:Int) (sq:Int) (tm:Int) (sr:Int) a i q hx (pf:Int) xa (O4 b).length xc ea m ec ((Td b:Nat):Int)) 79 (0,0)):=(mo.o.set 9 (.slice ea m ec)).Y8)|(with_reducible refine Zj 79 (.tmp 2) rfl ?_;refine Zl UF Tryz.underlying79 ?_)|(with_reducible refine ZU 79 (.tmp 2) (.tmp 207) rfl ?_;refine Zs UF ?_))
     refine VD (v:= .tuple (Q0 (Qb mk (ty:Int) (sq:Int) (tm:Int) (sr:Int) a i q hx (pf:Int) xa (O4 b).length xc ea m ec ((Td b:Nat):Int)) (A:Int) (E:Int) 0)) ?_ rfl ?_
     ·exact UL (p:=2) (u:=3) (v:=4) (x:=5) Zr _ _ w.heap.size 79 (Qb mk (ty:Int) (sq:Int) (tm:Int) (sr:Int) a i q hx (pf:Int) xa (O4 b).length xc ea m ec ((Td b:Nat):Int)) (0,0) _ Zr (setRow_heap _ _ _ _ _ _ UF) Tryz.underlying79 rfl Zk
     have hfin:N0 ((w9.setCell ⟨w,9,none⟩ (.slice ea m ec)).setRow w.heap.size (Qb mk (ty:Int) (sq:Int) (tm:Int) (sr:Int) a i q hx (pf:Int) xa (O4 b).length xc ea m ec ((Td b:Nat):Int))) (.agg (Qb mk (ty:Int) (sq:Int) (tm:Int) (sr:Int) a i q hx (pf:Int) xa (O4 b).length xc ea m ec ((Td b:Nat):Int))) X.1∧X.2=0∧Below w w ((w9.setCell ⟨w,9,none⟩ (.slice ea m ec)).setRow w.heap.size (Qb mk (ty:Int) (sq:Int) (tm:Int) (sr:Int) a i q hx (pf:Int) xa (O4 b).length xc ea m ec ((Td b:Nat):Int))):=by
      rw [HXF2.o,FZ.o];have h:=Row.Z6 yR.o;rw [QD,J2,←yq.o] at h;have L_:(zD b i).length=i:=by unfold zD;rw [TB,List.length_range]
      have hc9:Row w9 66 (.slice a (zD b i).length q) (zD b i).length (YO (zD b i)):=by rw [L_];exact bo.o
      have sr:∀ {e:TypeId} {v:Value} {n:Nat} {xs:List Value},79≠e→Row w9 e v n xs→Row ((w9.setCell ⟨w,9,none⟩ (.slice ea m ec)).setRow w.heap.size (Qb mk (ty:Int) (sq:Int) (tm:Int) (sr:Int) a i q hx (pf:Int) xa (O4 b).length xc ea m ec ((Td b:Nat):Int))) e v n xs:=fun he hr=>Row.setRow (QZ hr mo.o.Y8 he 9 _) UF (fun e=>he e.symm) _
      refine ⟨⟨_,_,_,?_,sr Zd hc9,sr Zd HRE9.o,sr Zd h⟩,rfl,Z3 (mo.o.set 9 (.slice ea m ec)).Zg (Zw _) _⟩;unfold G6;rw [L_,yq.o]
     obtain ⟨k1,k2,k3⟩:=hfin;rw [k2]
     first|exact ⟨⟨_,_,_,rfl,k1⟩,k3⟩|exact ⟨⟨_,⟨_,_,rfl⟩,k1⟩,k3⟩):p:=h
theorem pQ (v:Value) (b:List UInt8) (w:World) (hv:X6 w v b) (sA:at8 b 1<192) :
  Calls Tryz.prog 94 #[v] w fun e w'=>(∃ a f t,e = .returned (.tuple #[a,.int .i64 f,.int .i64 t,.int .i64 (YM b).2])∧N0 w' a (YM b).1)∧Below w w w':=AA
theorem pP (v:Value) (b:List UInt8) (w:World) (hv:X6 w v b) (sA:192≤at8 b 1) :
  Calls Tryz.prog 94 #[v] w fun e w'=>(∃ a f t,e = .returned (.tuple #[a,.int .i64 f,.int .i64 t,.int .i64 (YM b).2])∧N0 w' a (YM b).1)∧Below w w w':=AA
theorem tC (v:Value) (b:List UInt8) (w:World) (hv:X6 w v b) :
  Calls Tryz.prog 94 #[v] w fun e w'=>(∃ a f t,e = .returned (.tuple #[a,.int .i64 f,.int .i64 t,.int .i64 (YM b).2])∧N0 w' a (YM b).1)∧Below w w w':=by
 by_cases h:at8 b 1<192
 ·exact pQ v b w hv h
 ·exact pP v b w hv Zo
end Go.Proofs.By
