/- Part of a proof. -/
import Derived.Test.YtpdjhlcbcomdkaaGreatDoorT20
set_option linter.unusedVariables false
set_option linter.unusedSimpArgs false
set_option maxRecDepth 100000
set_option maxHeartbeats 16000000
open Go Go.Q Go.Qr Go.Proofs.Tryz
namespace Go.Proofs.By
open Go.RowKit Go.Proofs.Heap Go.Proofs
open Go.Proofs.Rm (below_drewN YN)
theorem UM{P:Program}{fn:Func}{p u v x:Tmp}{ty:TypeId}(h:fn.results=#[.cell p ty,.tmp u,.tmp v,.tmp x])(tmps:Array Value)(w:World)(g:Nat)(t:TypeId)(cs:Array Value)(fr:Nat×Nat)(d:TypeDesc)
  (hp:tmps.getD p undef = .pointer (some ⟨g,0,none⟩)) (hg:w.heap[g]?=some (.cells cs t fr))
  (hu:P.underlying ty=some d) (hd:(match d with | .struct _ | .array _ _=>true|_=>false)=true) (hi:(P.info? ty).map (·.size)=some cs.size) :
  (results fn tmps).run P w = .ok (.tuple #[.agg cs,tmps.getD u undef,tmps.getD v undef,tmps.getD x undef]) w:=by
 exact Yt8
structure PG(w w':World)(cs:List Value):Prop where
 Zf:Below w w w'
 z:w'.heap[w.heap.size+1]?=some (.cells (Qc false 0 0 0 0 none 0 0 false 0 none 0 0 none 0 0 0) 79 (0,0))
 Y8:w'.heap[w.heap.size]?=some (.cells cs.toArray 79 (0,0))
section
variable {w w1 w2:World} {cs:List Value}
theorem PG.below(h:PG w w1 cs)(hb:Below w1 w1 w2):PG w w2 cs:=⟨h.Zf.trans (hb.mono h.Zf.size),(hb.block _ (ZX h.z)).trans h.z,(hb.block _ (ZX h.Y8)).trans h.Y8⟩
theorem PG.set(h:PG w w1 cs)(j:Nat)(u:Value):PG w (w1.setCell ⟨w,j,none⟩ u) (cs.set j u):=by
 have h2:=VH h.Y8 j u;rw[List.setIfInBounds_toArray]at h2;exact⟨((Fr.Z6 Pz h.Zf).setCell (p:=⟨w,j,none⟩) (WO (Zw _)) _).below,(Mg w1 ⟨w,j,none⟩ u (w.heap.size+1) (by show w.heap.size+1≠w.heap.size;omega)).trans h.z,h2⟩
theorem PG.grown(h:PG w w1 cs){e:TypeId}{size:Nat}{v:Value}{n:Nat}{xs:List Value}(ho:w1.ownsRow w e size v n xs)(he:79≠e)(hg:w1.grownBy w2 v.ownBlock):PG w w2 cs:=
 ⟨((Fr.Z6 Pz h.Zf).grown hg h.Zf.size (Rm.YL ho)).below,(hg.block _ (ZX h.z) (fun x=>Y7 ho he _ _ _ x.symm h.z)).trans h.z,(hg.block _ (ZX h.Y8) (fun x=>Y7 ho he _ _ _ x.symm h.Y8)).trans h.Y8⟩
theorem PG.start(w:World):PG w (((w.alloc (.cells (Qc false 0 0 0 0 none 0 0 false 0 none 0 0 none 0 0 0) 79)).alloc (.cells (Qc false 0 0 0 0 none 0 0 false 0 none 0 0 none 0 0 0) 79)).setRow (w.heap.size+1) (Qc false 0 0 0 0 none 0 0 false 0 none 0 0 none 0 0 0)) (Qc false 0 0 0 0 none 0 0 false 0 none 0 0 none 0 0 0)∧((w.alloc (.cells (Qc false 0 0 0 0 none 0 0 false 0 none 0 0 none 0 0 0) 79)).alloc (.cells (Qc false 0 0 0 0 none 0 0 false 0 none 0 0 none 0 0 0) 79)).heap[w.heap.size+1]?=some (.cells (Qc false 0 0 0 0 none 0 0 false 0 none 0 0 none 0 0 0) 79 (0,0)):=by
 have e1:(w.alloc (.cells (Qc false 0 0 0 0 none 0 0 false 0 none 0 0 none 0 0 0) 79)).heap.size=w.heap.size+1:=by show(w.heap.push _).size=_;rw[Ou]
 have hz:((w.alloc (.cells (Qc false 0 0 0 0 none 0 0 false 0 none 0 0 none 0 0 0) 79)).alloc (.cells (Qc false 0 0 0 0 none 0 0 false 0 none 0 0 none 0 0 0) 79)).heap[w.heap.size+1]?=some (.cells (Qc false 0 0 0 0 none 0 0 false 0 none 0 0 none 0 0 0) 79 (0,0)):=by
  have h:=Z9 (w.alloc (.cells (Qc false 0 0 0 0 none 0 0 false 0 none 0 0 none 0 0 0) 79)) (.cells (Qc false 0 0 0 0 none 0 0 false 0 none 0 0 none 0 0 0) 79);rw[e1]at h;exact h
 refine⟨⟨Z0 (ZF (Z' w _) (Zw _) _) (J_ _) _,setRow_heap _ _ _ _ _ _ hz,?_⟩,hz⟩;rw[setRow_other _ _ _ _ Zo,(Z' (w.alloc (.cells (Qc false 0 0 0 0 none 0 0 false 0 none 0 0 none 0 0 0) 79)) _).block _ (by rw[e1];omega)];exact Z9 w _
end
def xX(b:List UInt8)(n:Nat):List Int:=(List.range n).map fun(i:Nat)=>((get b (12+4*(i:Int)) 4:Nat):Int)
theorem qP{w:World}{B:Nat}{e:TypeId}{size:Nat}{v:Value}{n:Nat}{xs:List Value}(h:w.ownsRow B e size v n xs){g:Nat}{c:Array Value}{f:Nat×Nat}(hg:w.heap[g]?=some (.cells c 79 f))(he:79≠e)(o:Nat)(u:Value):(w.setCell ⟨g,o,none⟩ u).ownsRow B e size v n xs:=
 XL h fun j hj=>by
  by_cases hjg:j=g
  ·subst hjg;exact absurd hg (Y7 h he _ _ _ hj)
  ·exact Mg w ⟨g,o,none⟩ _ j hjg
def OO(b:List UInt8):List UInt8:=if at8 b 0/16%2=1 then(b.drop (Ua b)).take (WS b-Ua b)else[]
theorem Ig{w w':World}(hg:w.grownBy w' (Value.slice none 0 0).ownBlock):Below w w w':=(YI _ _).grown hg (Zw _) (fun k hk=>by cases hk)
theorem QS{w:World}{e:TypeId}{v:Value}{n:Nat}{xs:List Value}(h:Row w e v n xs){g:Nat}{c:Array Value}{f:Nat×Nat}(hg:w.heap[g]?=some (.cells c 79 f))(he:79≠e)(o:Nat)(u:Value):Row (w.setCell ⟨g,o,none⟩ u) e v n xs:=
 Row.fr h ((Fr.refl w (· = g) w).setAt o u) (Zw _) (fun k c' fr hk hc=>by
  have hk:k=g:=hk;rw[hk,hg]at hc;injection hc with hc
  injection hc with _ hc
  exact he hc)
theorem Gc(w:World):NF w (.agg (Qc false 0 0 0 0 none 0 0 false 0 none 0 0 none 0 0 0)) WR:=⟨_,_,_,rfl,Row.nil _ _,Row.nil _ _,Row.nil _ _⟩
set_option maxRecDepth 1000000 in
theorem zi{p:Prop} (h:p:=by
 have CR:=Zh (fun(p q:Int) (w':World) (h:Below w w w')=>Re v b p q w' (hv.below h));have HX:Hid (YM b=Bx b):=vG b;have HV:Hid (∀w',Below w w w'→X5 w' v b):=fun w' h=>hv.below h
 obtain⟨⟨WX,hzz,iQ⟩,hz⟩:=PG.start w;have HP:Hid (PG w (((w.alloc (.cells (Qc false 0 0 0 0 none 0 0 false 0 none 0 0 none 0 0 0) 79)).alloc (.cells (Qc false 0 0 0 0 none 0 0 false 0 none 0 0 none 0 0 0) 79)).setRow (w.heap.size+1) (Qc false 0 0 0 0 none 0 0 false 0 none 0 0 none 0 0 0)) (Qc false 0 0 0 0 none 0 0 false 0 none 0 0 none 0 0 0)):=⟨WX,hzz,iQ⟩
 have UF:Hid (∀w2 er,Below w w w2→YM b=(WR,er)→(∃a f t,Ending.returned (.tuple (Qz (Qc false 0 0 0 0 none 0 0 false 0 none 0 0 none 0 0 0) 0 0 er)) = .returned (.tuple #[a,.int .i64 f,.int .i64 t,.int .i64 (YM b).2])∧NF (w2.setRow w (Qc false 0 0 0 0 none 0 0 false 0 none 0 0 none 0 0 0)) a (YM b).1)∧Below w w (w2.setRow w (Qc false 0 0 0 0 none 0 0 false 0 none 0 0 none 0 0 0))):=fun w2 er h2 h3=>by
  rw[h3];exact⟨⟨_,_,_,rfl,Gc _⟩,Z0 h2 (Zw _) _⟩
 obtain⟨va,c,rfl,RV,uz⟩:∃a c,v = .slice a b.length c∧b.length≤c∧c≤maxLen:=by
  obtain⟨a,c,h1,h2,h3,_⟩:=id hv;exact⟨a,c,h1,h2,h3⟩
 clear hv WX hzz iQ;generalize YM b=X at *
 unfold Bx at HX;go_enter func94,ntmps94;go_upto_region 2 with(with_reducible refine Zs hz ?_)
 clear hz;generalize((w.alloc (.cells (Qc false 0 0 0 0 none 0 0 false 0 none 0 0 none 0 0 0) 79)).alloc (.cells (Qc false 0 0 0 0 none 0 0 false 0 none 0 0 none 0 0 0) 79)).setRow (w.heap.size+1) (Qc false 0 0 0 0 none 0 0 false 0 none 0 0 none 0 0 0)=w1 at *
 by_cases h1:512<b.length
 ·have l1:decide ((512:Int)<(b.length:Int))=true:=Ww Zo;have VC:Hid (X=(WR,5)):=by show _=_;rw[HX.o,ZU h1]
  have TZ:=HP.o.z;have UH:=HP.o.Y8;go_wp2_with (first|(with_reducible refine Zl TZ underlying79 ?_)|(with_reducible refine Zs UH ?_))
  refine VD (v:= .tuple (Qz (Qc false 0 0 0 0 none 0 0 false 0 none 0 0 none 0 0 0) 0 0 5)) ?_ rfl ?_
  ·exact Yt29
  first|exact UF.o _ 5 HP.o.Zf VC.o|(obtain⟨⟨a,f,t,k1,k2⟩,k3⟩:=UF.o _ 5 HP.o.Zf VC.o;exact⟨⟨a,⟨f,t,k1⟩,k2⟩,k3⟩)
 have l1:decide ((512:Int)<(b.length:Int))=false:=Wz Zo;by_cases h2:b.length<12
 ·have l2:decide ((b.length:Int)<12)=true:=Ww Zo;have VC:Hid (X=(WR,2)):=by show _=_;rw[HX.o,Z3 h1,ZU h2]
  have TZ:=HP.o.z;have UH:=HP.o.Y8;go_wp2_with (first|(with_reducible refine Zl TZ underlying79 ?_)|(with_reducible refine Zs UH ?_))
  exact Yt1
 have l2:decide ((b.length:Int)<12)=false:=Wz Zo;rw[Z3 h1,Z3 h2]at HX;obtain⟨g,off,cap,e1,_,_,hc⟩:=RI (HV.o w1 HP.o.Zf) Zo;cases e1;have d0:=hc 0 Zo;have d1:=hc 1 Zo
 have HD:Hid (∀w',Below w w w'→∀j,j<b.length→w'.cell? ⟨g,off+j,none⟩=some (.int .u8 (at8 b j:Int))):=fun w' h j hj=>by
  obtain⟨_,_,_,e,_,_,hc⟩:=RI (HV.o w' h) Zo;cases e;exact hc j hj
 rw[Z1g]at d0;have i0:(0:Int)<(b.length:Int):=by omega
 have i1:(1:Int)<(b.length:Int):=by omega
 have r0:=Xj b 0;have r1:=Xj b 1;clear hc;obtain⟨x0,P7⟩:∃x,x=at8 b 0:=⟨_,rfl⟩;obtain⟨x1,SF⟩:∃x,x=at8 b 1:=⟨_,rfl⟩;have bD:Hid (∀w',Below w w w'→w'.cell? ⟨g,off,none⟩=some (.int .u8 (x0:Int))∧w'.cell? ⟨g,off+1,none⟩=some (.int .u8 (x1:Int))):=fun w' h=>⟨by have k:=HD.o w' h 0 Zo;rw[Z1g,←P7]at k;exact k,by rw[SF];exact HD.o w' h 1 Zo⟩
 rw[←P7]at d0 r0;rw[←SF]at d1 r1;by_cases h3:x0<128∨191<x0
 ·by_cases h3a:x0<128
  case' pos=>have q3:decide ((x0:Int)<128)=true:=Ww Zo
  case' neg=>have q3:decide ((x0:Int)<128)=false:=Wz Zo;have q4:decide ((191:Int)<(x0:Int))=true:=Ww Zo
  all_goals
   have VC:Hid (X=(WR,1)):=by show _=_;rw[HX.o,ZU (by rw[←P7];exact h3)]
   have TZ:=HP.o.z;have UH:=HP.o.Y8;go_wp2_with (first|(with_reducible refine Zl TZ underlying79 ?_)|(with_reducible refine Zs UH ?_))
   refine VD (v:= .tuple (Qz (Qc false 0 0 0 0 none 0 0 false 0 none 0 0 none 0 0 0) 0 0 1)) ?_ rfl ?_
   ·exact UM (p:=2) (u:=3) (v:=4) (x:=5) Zr _ _ w 79 (Qc false 0 0 0 0 none 0 0 false 0 none 0 0 none 0 0 0) (0,0) _ Zr (setRow_heap _ _ _ _ _ _ UH) underlying79 rfl Zk
   first|exact UF.o _ 1 HP.o.Zf VC.o|(obtain⟨⟨a,f,t,k1,k2⟩,k3⟩:=UF.o _ 1 HP.o.Zf VC.o;exact⟨⟨a,⟨f,t,k1⟩,k2⟩,k3⟩)
 have q3:decide ((x0:Int)<128)=false:=Wz Zo;have q4:decide ((191:Int)<(x0:Int))=false:=Wz Zo;rw[Z3 (by rw[←P7];exact h3)]at HX;by_cases h4:192≤x1∧x1≤223
 ·try(exfalso;omega)
  all_goals
   have q5:decide ((192:Int)≤(x1:Int))=true:=Ww Zo;have q6:decide ((x1:Int)≤223)=true:=Ww Zo;have VC:Hid (X=(WR,4)):=by show _=_;rw[HX.o,ZU (by rw[←SF];exact h4)]
   have TZ:=HP.o.z;have UH:=HP.o.Y8;go_wp2_with (first|(with_reducible refine Zl TZ underlying79 ?_)|(with_reducible refine Zs UH ?_))
   refine VD (v:= .tuple (Qz (Qc false 0 0 0 0 none 0 0 false 0 none 0 0 none 0 0 0) 0 0 4)) ?_ rfl ?_
   ·exact UM (p:=2) (u:=3) (v:=4) (x:=5) Zr _ _ w 79 (Qc false 0 0 0 0 none 0 0 false 0 none 0 0 none 0 0 0) (0,0) _ Zr (setRow_heap _ _ _ _ _ _ UH) underlying79 rfl Zk
   first|exact UF.o _ 4 HP.o.Zf VC.o|(obtain⟨⟨a,f,t,k1,k2⟩,k3⟩:=UF.o _ 4 HP.o.Zf VC.o;exact⟨⟨a,⟨f,t,k1⟩,k2⟩,k3⟩)
 rw[Z3 (by rw[←SF];exact h4)]at HX;obtain⟨sq,hsq⟩:∃x:Nat,x=get b 2 2:=⟨_,rfl⟩;obtain⟨tm,aK⟩:∃x:Nat,x=get b 4 4:=⟨_,rfl⟩;obtain⟨sr,hsr⟩:∃x:Nat,x=get b 8 4:=⟨_,rfl⟩;have C2:=Zh (fun(w':World) (h:Below w w w')=>CR.o 2 2 w' h);have C4:=Zh (fun(w':World) (h:Below w w w')=>CR.o 4 4 w' h);have C8:=Zh (fun(w':World) (h:Below w w w')=>CR.o 8 4 w' h);rw[←hsq]at C2;rw[←aK]at C4;rw[←hsr]at C8;have bsq:IntKind.u16.wrap (sq:Int)=(sq:Int):=by have:=Mw b 2;rw[IntKind.wrap_u16];omega
 have btm:IntKind.u32.wrap (tm:Int)=(tm:Int):=by have:=WV b 4;rw[Np];omega
 have bsr:IntKind.u32.wrap (sr:Int)=(sr:Int):=by have:=WV b 8;rw[Np];omega
 have HH:Hid (sq=get b 2 2∧tm=get b 4 4∧sr=get b 8 4∧x0=at8 b 0∧x1=at8 b 1):=⟨hsq,aK,hsr,P7,SF⟩;obtain⟨ty,GX⟩:∃x:Nat,x=x1%128:=⟨_,rfl⟩;obtain⟨mk,dH⟩:∃x:Bool,x=decide (128≤x1):=⟨_,rfl⟩;obtain⟨cc,hcc2⟩:∃x:Nat,x=x0%16:=⟨_,rfl⟩;have p1:(x1:Int).tmod 128=(ty:Int):=by rw[Int.tmod_eq_emod_of_nonneg Zo];omega
 have p1c:(x1:Int)%128=(ty:Int):=by omega
 have p1b:IntKind.i64.wrap (ty:Int)=(ty:Int):=Te _ Zo;have p2:decide ((128:Int)≤(x1:Int))=mk:=by rw[dH,Bool.eq_iff_iff,Sz,Sz];omega
 have p3:(x0:Int).tmod 16=(cc:Int):=by rw[Int.tmod_eq_emod_of_nonneg Zo];omega
 have p3c:(x0:Int)%16=(cc:Int):=by omega
 have p3b:IntKind.i64.wrap (cc:Int)=(cc:Int):=Te _ Zo;have hcc16:cc<16:=by omega
 have HM:Hid (ty=x1%128∧mk=decide (128≤x1)∧cc=x0%16):=⟨GX,dH,hcc2⟩;have Ef:¬b.length<12:=h2;have hb512:¬512<b.length:=h1;first
 | (have q5:decide ((192:Int)≤(x1:Int))=false:=Wz Zo)
 | (have q5:decide ((192:Int)≤(x1:Int))=true:=Ww Zo;have q6:decide ((x1:Int)≤223)=false:=Wz Zo)
 clear hsq aK hsr P7 SF GX dH hcc2 h1 h2 h3 h4 qf;go_upto_region 10 with fail
 have zc:=cell_of HP.o.Y8 1;simp only[SN,Sy,R4]at zc;have fc:=ZP HP.o.Y8 1;go_upto_region 11 with fail
 have HP:Hid (PG w (w1.setCell ⟨w,1,none⟩ (.int .i64 (ty:Int))) (Qc false (ty:Int) 0 0 0 none 0 0 false 0 none 0 0 none 0 0 0)):=HP.o.set 1 (.int .i64 (ty:Int));clear zc fc;generalize w1.setCell ⟨w,1,none⟩ (.int .i64 (ty:Int))=w2 at *
 obtain⟨d0,d1⟩:=bD.o w2 HP.o.Zf;have zc:=cell_of HP.o.Y8 0;simp only[SN,Sy,R4]at zc;have fc:=ZP HP.o.Y8 0;go_upto_region 12 with fail
 have HP:Hid (PG w (w2.setCell ⟨w,0,none⟩ (.bool mk)) (Qc mk (ty:Int) 0 0 0 none 0 0 false 0 none 0 0 none 0 0 0)):=HP.o.set 0 (.bool mk);clear zc fc;generalize w2.setCell ⟨w,0,none⟩ (.bool mk)=w3 at *
 have zc:=cell_of HP.o.Y8 2;simp only[SN,Sy,R4]at zc;have fc:=ZP HP.o.Y8 2;go_upto_region 13 with(go_at_call 118;refine(C2.o _ HP.o.Zf).mono ?_;rintro e w' ⟨rfl,rfl⟩)
 have HP:Hid (PG w (w3.setCell ⟨w,2,none⟩ (.int .u16 (sq:Int))) (Qc mk (ty:Int) (sq:Int) 0 0 none 0 0 false 0 none 0 0 none 0 0 0)):=HP.o.set 2 (.int .u16 (sq:Int));clear zc fc;generalize w3.setCell ⟨w,2,none⟩ (.int .u16 (sq:Int))=w4 at *
 have zc:=cell_of HP.o.Y8 3;simp only[SN,Sy,R4]at zc;have fc:=ZP HP.o.Y8 3;go_upto_region 14 with(go_at_call 118;refine(C4.o _ HP.o.Zf).mono ?_;rintro e w' ⟨rfl,rfl⟩)
 have HP:Hid (PG w (w4.setCell ⟨w,3,none⟩ (.int .u32 (tm:Int))) (Qc mk (ty:Int) (sq:Int) (tm:Int) 0 none 0 0 false 0 none 0 0 none 0 0 0)):=HP.o.set 3 (.int .u32 (tm:Int));clear zc fc;generalize w4.setCell ⟨w,3,none⟩ (.int .u32 (tm:Int))=w5 at *
 have zc:=cell_of HP.o.Y8 4;simp only[SN,Sy,R4]at zc;have fc:=ZP HP.o.Y8 4;go_upto_region 15 with(go_at_call 118;refine(C8.o _ HP.o.Zf).mono ?_;rintro e w' ⟨rfl,rfl⟩)
 have HP:Hid (PG w (w5.setCell ⟨w,4,none⟩ (.int .u32 (sr:Int))) (Qc mk (ty:Int) (sq:Int) (tm:Int) (sr:Int) none 0 0 false 0 none 0 0 none 0 0 0)):=HP.o.set 4 (.int .u32 (sr:Int));clear zc fc;generalize w5.setCell ⟨w,4,none⟩ (.int .u32 (sr:Int))=w6 at *
 obtain⟨d0,d1⟩:=bD.o w6 HP.o.Zf;clear C2 C4 C8 bsq btm bsr p1 p1c p1b p2 q3 q4 q5;go_wp2_with fail
 clear d0 d1 p3 p3c p3b;go_loopw [7,8] (fun s7 s8 w'=>∃(i pos k:Nat) (a:Option Addr) (q:Nat),i+k=cc∧pos=12+4*i∧pos≤b.length∧s7 = .int .i64 (pos:Int)∧s8 = .int .i64 (k:Int)∧PG w w' (Qc mk (ty:Int) (sq:Int) (tm:Int) (sr:Int) a i q false 0 none 0 0 none 0 0 0)∧w'.ownsRow w 66 1 (.slice a i q) i (YN (xX b i))) (fun _ s8 _=>(intOf s8).toNat)
 case atStart=>exact⟨0,12,cc,none,0,Zo,Zo,Zo,rfl,rfl,HP.o,TV _ _ _ _⟩
 case round=>
  obtain⟨i,pos,k,a,q,hik,P4,lT,rfl,rfl,Cw,YG⟩:=hrel;have HP:=Zh Cw;have HO:=Zh YG;clear Cw YG;by_cases dD:0<k
  ·have dk:decide ((0:Int)<(k:Int))=true:=Ww Zo;have dL:IntKind.i64.wrap ((pos:Int)+4)=(pos:Int)+4:=Te _ Zo;by_cases h7:b.length<pos+4
   ·have l7:decide ((b.length:Int)<(pos:Int)+4)=true:=Ww Zo;have VC:Hid (X=(WR,2)):=by show _=_;rw[HX.o,ZU (by have:=HM.o.2.2;have:=HH.o.2.2.2.1;omega)]
    have TZ:=HP.o.z;have UH:=HP.o.Y8;go_wp2_with (first|(with_reducible refine Zl TZ underlying79 ?_)|(with_reducible refine Zs UH ?_))
    exact Yt1
   have l7:decide ((b.length:Int)<(pos:Int)+4)=false:=Wz Zo;obtain⟨y0,aP⟩:∃x:Nat,x=get b (pos:Int) 4:=⟨_,rfl⟩
   have Lr:Hid (xX b (i+1)=xX b i++[(y0:Int)]):=by
    show _=_;rw[aP,P4];unfold xX;rw[n_,Nv];simp
   have C0:=Zh (fun(w':World) (h:Below w w w')=>CR.o (pos:Int) 4 w' h);rw[←aP]at C0;have Nw:IntKind.u32.wrap (y0:Int)=(y0:Int):=by have:=WV b (pos:Int);rw[Np];omega
   have hkm:IntKind.i64.wrap ((k:Int)-1)=((k-1:Nat):Int):=by rw[Te _ Zo];omega
   have Db:pos≤512:=by omega
   have Ns:Hid (i+k=cc∧pos=12+4*i∧0<k∧pos+4≤b.length):=⟨hik,P4,dD,Zo⟩;have hi16:i≤16:=by omega
   clear P4 aP hik lT h7;go_upto_region 21 with fail
   have HP:=Zh (HP.o.below (YI _ _).drew);have HO:=Zh (Yv HO.o (YI _ _).drew);have k0:(wr.drew).cell? ⟨w,5,none⟩=some (.slice a i q):=Zc HP.o.Y8 5 rfl;refine R5 ?_;refine Z_.Zj (d:=9) (S:=(fun w'=>w'.cell? ⟨w,5,none⟩=some (.slice a i q))) Zk ?_ (fun X7=>?_)
   ·exact k0
   refine YP 0 (h:=YP 2 (h:=YP 3 (h:=YK 1 (h:=?_))));refine YR 4 (h:=fun K hK=>?_);go_simp;refine(C0.o _ HP.o.Zf).mono ?_;rintro e w' ⟨rfl,rfl⟩;go_wp2_with fail
   refine Z_.Y9 hK _ _ ?_ (fun XC=>?_)
   ·exact k0
   clear hK K;try simp only[Z_.pt]
   refine YP 5 (h:=?_);refine YR 6 (h:=fun K hK=>?_);refine Ym Zr Vo (.tmp 91) Zr (.int .u32 (y0:Int)) Zr rfl ?_;have HP:=Zh (HP.o.below (Z' wr.drew (.cells #[.int .u32 (y0:Int)] 66)));have HO:=Zh (Yv HO.o (Z' wr.drew (.cells #[.int .u32 (y0:Int)] 66)));have k1:=cell_of HP.o.Y8 5;simp only[SN,Sy,R4]at k1;refine Z_.Y9 hK _ _ ?_ (fun Vz=>?_)
   ·exact k1
   clear hK K;try simp only[Z_.pt]
   refine YR 7 (h:=fun K hK=>?_);refine Ze Zr (.tmp 87) (.tmp 92) 29 Zr w Vo (.slice a i q) i (YN (xX b i)) Zr HO.o _ 1 (YN [(y0:Int)]) Zr (VA wr.drew 66 1 (YN [(y0:Int)]) Zd) rfl (JQ _) Zo Zo ?_ ?_
   ·exact HP.o.Zf.size
   intro v' w7 Hq xd;obtain⟨na,nq,Nr,-⟩:=Row.Z4 Hq.o;subst Nr;have HP:=Zh (HP.o.grown HO.o Zd xd.o);have HO:Hid (w7.ownsRow w 66 1 (.slice na (i+1) nq) (i+1) (YN (xX b i++[(y0:Int)]))):=(by have h:=Hq.o;rw[show YN (xX b i)++YN [(y0:Int)]=YN (xX b i++[(y0:Int)])from(Nv ..).symm]at h;exact h);have k2:=cell_of HP.o.Y8 5;simp only[SN,Sy,R4]at k2;have f2:=ZP HP.o.Y8 5;refine Z_.Y9 hK _ _ ?_ (fun N1=>?_)
   ·exact k2
   clear hK K;try simp only[Z_.pt]
   refine YP 8 (h:=?_);refine YR 9 (h:=fun K hK=>?_);go_simp;refine Z_.Yf hK _ _ Zk ?_;clear hK K;try simp only[Z_.pt]
   refine Z_.Yx Zk ?_ _;refine QZ ?_;go_wp2_with fail
   go_roundw
   case rel=>
    refine⟨i+1,pos+4,k-1,na,nq,by have:=Ns.o;omega,by have:=Ns.o;omega,by have:=Ns.o;omega,Zn,rfl,HP.o.set 5 (.slice na (i+1) nq),?_⟩;rw[Lr.o];exact qP HO.o HP.o.Y8 Zd _ _
   case measure=>have:=Ns.o;simp[intOf];omega
  ·obtain rfl:k=0:=by omega
   obtain rfl:i=cc:=by omega
   have SR:=Zh (Row.Z4 HO.o);have Ns:Hid (pos=12+4*i∧pos≤b.length):=⟨P4,lT⟩;have Db:pos≤512:=by omega
   obtain⟨d0,d1⟩:=bD.o wr HP.o.Zf;obtain⟨y,hy⟩:∃y:Nat,y=x0/16:=⟨_,rfl⟩;have p1:IntKind.u8.wrap ((x0:Int)/16)=(y:Int):=by rw[IntKind.wrap_u8];omega
   have qw:(y%2=1)↔at8 b 0/16%2=1:=by rw[hy,HH.o.2.2.2.1]
   have BZ:=Zh qw;clear HO hik P4 lT dD qw hy;have HKE:Hid (WS b=if at8 b 0/16%2=1 then pos+4+4*get b ((pos:Int)+2) 2 else pos):=by show _=_;unfold WS;rw[Ns.o.1,HM.o.2.2,HH.o.2.2.2.1]
   have HKX:Hid (Ua b=if at8 b 0/16%2=1 then pos+4 else pos):=by show _=_;unfold Ua;rw[Ns.o.1,HM.o.2.2,HH.o.2.2.2.1]
   have jU:Hid (X=if at8 b 0/16%2=1∧b.length<pos+4 then(WR,2)else if b.length<WS b then(WR,2)else if at8 b 0/32%2=1∧(WS b=b.length∨at8 b (b.length-1)=0∨b.length-WS b<at8 b (b.length-1))then(WR,1)else if at8 b 0/32%2=1∧¬(((b.drop (b.length-at8 b (b.length-1))).take (at8 b (b.length-1)-1)).all (fun x=>decide (x=0))=true)then(WR,1)else(TD b (Ua b,WS b,b.length-S9 b),0)):=by
    have e:12+4*(at8 b 0%16)=pos:=by rw[Ns.o.1,HM.o.2.2,HH.o.2.2.2.1]
    show _=_;rw[HX.o,e,Z3 (by have:=Ns.o.2;omega)]
   clear HX;go_upto_if 102 with fail
   go_cut [7] (fun s7 wx=>∃(hx:Bool) (pf:Nat) (ev:Value),s7 = .int .i64 ((WS b:Nat):Int)∧WS b≤b.length∧¬(at8 b 0/16%2=1∧b.length<pos+4)∧hx=decide (at8 b 0/16%2=1)∧pf=(if at8 b 0/16%2=1 then get b (pos:Int) 2 else 0)∧PG w wx [.bool mk,.int .i64 (ty:Int),.int .u16 (sq:Int),.int .u32 (tm:Int),.int .u32 (sr:Int),.slice a i q,.bool hx,.int .u16 (pf:Int),ev,.slice none 0 0,.int .i64 0]∧Row wx 66 (.slice a i q) i (YN (xX b i))∧Row wx 5 ev (OO b).length (Rx (OO b)))
   case first=>
    by_cases hex:at8 b 0/16%2=1
    rotate_left
    ·have d9:((y:Int).tmod 2==1)=false:=by rw[WM,Int.tmod_eq_emod_of_nonneg Zo];intro h;exact hex (BZ.o.1 Zo)
     have d9c:((y:Int)%2==1)=false:=by rw[WM];intro h;exact hex (BZ.o.1 Zo)
     have d9d:((x0:Int)/16%2==1)=false:=by rw[WM];intro h;have:=HH.o.2.2.2.1;exact hex Zo
     go_wp2_with fail
     go_meet;have e1:=HKE.o;rw[Z3 hex]at e1;exact⟨false,0,.slice none 0 0,by rw[e1],by rw[e1];exact Ns.o.2,fun h=>hex h.1,(Wz hex).symm,(Z3 hex).symm,HP.o,SR.o,by rw[show OO b=[]from Z3 hex];exact Row.nil _ _⟩
    ·have d9:((y:Int).tmod 2==1)=true:=by rw[beq_iff_eq,Int.tmod_eq_emod_of_nonneg Zo];have:=BZ.o.2 hex;omega
     have d9c:((y:Int)%2==1)=true:=by rw[beq_iff_eq];have:=BZ.o.2 hex;omega
     have d9d:((x0:Int)/16%2==1)=true:=by rw[beq_iff_eq];have:=HH.o.2.2.2.1;omega
     have dL:IntKind.i64.wrap ((pos:Int)+4)=(pos:Int)+4:=Te _ Zo;by_cases h8:b.length<pos+4
     ·have l7:decide ((b.length:Int)<(pos:Int)+4)=true:=Ww Zo;have VC:Hid (X=(WR,2)):=by show _=_;rw[jU.o,ZU ⟨hex,h8⟩]
      have TZ:=HP.o.z;have UH:=HP.o.Y8;go_wp2_with (first|(with_reducible refine Zl TZ underlying79 ?_)|(with_reducible refine Zs UH ?_))
      exact Yt1
     have l8:decide ((b.length:Int)<(pos:Int)+4)=false:=Wz Zo;obtain⟨nw,hnw⟩:∃x:Nat,x=get b ((pos:Int)+2) 2:=⟨_,rfl⟩;obtain⟨pf,ax⟩:∃x:Nat,x=get b (pos:Int) 2:=⟨_,rfl⟩;have hn16:nw<65536:=by rw[hnw];exact Mw b _
     have C9:=Zh (fun(w':World) (h:Below w w w')=>CR.o ((pos:Int)+2) 2 w' h);have CF:=Zh (fun(w':World) (h:Below w w w')=>CR.o (pos:Int) 2 w' h);rw[←hnw]at C9;rw[←ax]at CF;have s2:IntKind.i64.wrap ((pos:Int)+2)=(pos:Int)+2:=Te _ Zo;have s3:IntKind.i64.wrap (nw:Int)=(nw:Int):=Te _ Zo;have s4:IntKind.i64.wrap (4*(nw:Int))=4*(nw:Int):=Te _ Zo;obtain⟨Z,hZ⟩:∃Z:Nat,Z=pos+4+4*nw:=⟨_,rfl⟩;have s5:IntKind.i64.wrap ((pos:Int)+4+4*(nw:Int))=(Z:Int):=by rw[Te _ Zo];omega
     have s6:IntKind.i64.wrap (4+4*(nw:Int))=4+4*(nw:Int):=Te _ Zo;have s7:IntKind.i64.wrap ((pos:Int)+(4+4*(nw:Int)))=(Z:Int):=by rw[Te _ Zo];omega
     have s8:IntKind.u16.wrap (pf:Int)=(pf:Int):=by rw[ax];have:=Mw b (pos:Int);rw[IntKind.wrap_u16];omega
     have Hr:Hid (WS b=Z):=by show _=_;rw[HKE.o,ZU hex,hZ,hnw]
     have HPF:=Zh ax;have hzl:pos+4≤Z:=by omega
     clear hnw ax hZ;by_cases h9:b.length<Z
     ·have l9:decide ((b.length:Int)<(Z:Int))=true:=Ww Zo;have VC:Hid (X=(WR,2)):=by show _=_;rw[jU.o,Z3 (fun h=>h8 h.2),ZU (by rw[Hr.o];exact h9)]
      have TZ:=HP.o.z;have UH:=HP.o.Y8;go_wp2_with (first|(go_at_call 118;refine(C9.o _ HP.o.Zf).mono ?_;rintro e w' ⟨rfl,rfl⟩)|(with_reducible refine Zl TZ underlying79 ?_)|(with_reducible refine Zs UH ?_))
      exact Yt1
     have l9:decide ((b.length:Int)<(Z:Int))=false:=Wz Zo;obtain⟨vs,Us,Hk⟩:=Wc (P:=prog) VG (some ⟨g,off,none⟩) b.length c (pos+4) Z hzl Zo RV;have hs9:∀w,(Instr.slice 30 (.slice (some ⟨g,off,none⟩) b.length c) (some (.int .i64 ((pos:Int)+4))) (some (.int .i64 (Z:Int))) none).run prog w = .ok (.slice vs (Z-(pos+4)) (c-(pos+4))) w:=Us;obtain⟨m,hm⟩:∃m:Nat,m=Z-(pos+4):=⟨_,rfl⟩;obtain⟨c',Ks⟩:∃m:Nat,m=c-(pos+4):=⟨_,rfl⟩;have Aa:((b.drop (pos+4)).take (Z-(pos+4))).length=m:=by rw[SY,Ra,hm];omega
     have jr:Hid (∀w',Below w w w'→XM w' (.slice vs m c') m (Rx ((b.drop (pos+4)).take (Z-(pos+4))))):=fun w' h=>by
      have h2:X5 w' _ _:=Oe Zo hzl Hk (HV.o w' h);rw[←hm,←Ks]at h2;have h3:XM w' _ _ _:=h2;rw[←hm]at Aa;rw[Aa]at h3;rw[hm];rw[hm]at h3;exact h3
     rw[←hm,←Ks]at hs9;have HEB:Hid (OO b=(b.drop (pos+4)).take (Z-(pos+4))):=by show _=_;unfold OO;rw[ZU hex,Hr.o,HKX.o,ZU hex]
     have dG:m≤512:=by omega
     generalize(b.drop (pos+4)).take (Z-(pos+4))=xb at *
     have rO:=Zh Aa;clear Us Hk hm Ks Aa;have zc:=cell_of HP.o.Y8 6;simp only[SN,Sy,R4]at zc;have fc:=ZP HP.o.Y8 6;have Ap:=HP;go_upto_region 30 with(go_at_call 118;refine(C9.o _ HP.o.Zf).mono ?_;rintro e w' ⟨rfl,rfl⟩)
     have HP:Hid (PG w (wr.setCell ⟨w,6,none⟩ (.bool true)) (Qc mk (ty:Int) (sq:Int) (tm:Int) (sr:Int) a i q true 0 none 0 0 none 0 0 0)):=HP.o.set 6 (.bool true);have SR:=Zh (QS SR.o Ap.o.Y8 Zd 6 (.bool true));clear zc fc Ap;generalize wr.setCell ⟨w,6,none⟩ (.bool true)=w7 at *
     have zc:=cell_of HP.o.Y8 7;simp only[SN,Sy,R4]at zc;have fc:=ZP HP.o.Y8 7;have Ap:=HP;go_upto_region 31 with(go_at_call 118;refine(CF.o _ HP.o.Zf).mono ?_;rintro e w' ⟨rfl,rfl⟩)
     have HP:Hid (PG w (w7.setCell ⟨w,7,none⟩ (.int .u16 (pf:Int))) (Qc mk (ty:Int) (sq:Int) (tm:Int) (sr:Int) a i q true (pf:Int) none 0 0 none 0 0 0)):=HP.o.set 7 (.int .u16 (pf:Int));have SR:=Zh (QS SR.o Ap.o.Y8 Zd 7 (.int .u16 (pf:Int)));clear zc fc Ap;generalize w7.setCell ⟨w,7,none⟩ (.int .u16 (pf:Int))=w8 at *
     have HBR8:=Zh (jr.o w8 HP.o.Zf);go_wp2_with (at_builtin;refine PU rfl (.const (.slice none 0 0)) (.tmp 136) 30 rfl w VG (.slice none 0 0) 0 [] rfl (TV _ _ _ _) (.slice vs m c') m (Rx xb) rfl HBR8.o (by rw[Xg,rO.o,Nat.mul_one]) (AR _) Zo Zo HP.o.Zf.size (fun v9 w9 xh oJ=>?_);obtain⟨ea,ec,hev9⟩:=Row.form (Row.Z4 xh.o);subst hev9;have bA:=Zh (Ig oJ.o);have jK:=Zh (HP.o.below bA.o);have HRW9:=Zh (Row.below SR.o bA.o);have zc:=cell_of jK.o.Y8 8;simp only[SN,Sy,R4]at zc;have fc:=ZP jK.o.Y8 8)
     go_meet;refine⟨true,pf,.slice ea m ec,by rw[Hr.o],by rw[Hr.o];omega,fun h=>h8 h.2,(Ww hex).symm,by rw[ZU hex,HPF.o],jK.o.set 8 (.slice ea m ec),QS HRW9.o jK.o.Y8 Zd 8 _,?_⟩;rw[HEB.o,rO.o];have h:=Row.Z4 xh.o;rw[PW,Hz]at h;exact QS h jK.o.Y8 Zd 8 _
   case rest=>
    clear Ns BZ SR Db p1 d0 d1;obtain⟨hx,pf,ev,aD,lT,hnx,hhx,ax,Cw,wL,gZ⟩:=hcut;obtain⟨WC,rfl⟩:∃W:World,W=wc:=⟨_,rfl⟩;subst aD;obtain⟨xa,xc,rfl⟩:=Row.form gZ;have HP:=Zh Cw;have SR:=Zh wL;have oU:=Zh gZ;have HXF:Hid (hx=decide (at8 b 0/16%2=1)∧pf=if at8 b 0/16%2=1 then get b (pos:Int) 2 else 0):=⟨hhx,ax⟩;have HX6:Hid (X=if at8 b 0/32%2=1∧(WS b=b.length∨at8 b (b.length-1)=0∨b.length-WS b<at8 b (b.length-1))then(WR,1)else if at8 b 0/32%2=1∧¬(((b.drop (b.length-at8 b (b.length-1))).take (at8 b (b.length-1)-1)).all (fun x=>decide (x=0))=true)then(WR,1)else(TD b (Ua b,WS b,b.length-S9 b),0)):=by show _=_;rw[jU.o,Z3 hnx,Z3 Zo]
    obtain⟨la,dE⟩:∃x:Nat,x=at8 b (b.length-1):=⟨_,rfl⟩;obtain⟨A,hA⟩:∃x:Nat,x=WS b:=⟨_,rfl⟩;have hlaR:la<256:=by rw[dE];exact Xj b _
    obtain⟨d0,d1⟩:=bD.o WC HP.o.Zf;have sy:WC.cell? ⟨g,off+(b.length-1),none⟩=some (.int .u8 (la:Int)):=by rw[dE];exact HD.o WC HP.o.Zf _ Zo
    obtain⟨y,hy⟩:∃y:Nat,y=x0/32:=⟨_,rfl⟩;have p1:IntKind.u8.wrap ((x0:Int)/32)=(y:Int):=by rw[IntKind.wrap_u8];omega
    have HYY:Hid ((y%2=1)↔at8 b 0/32%2=1):=by show _↔_;rw[hy,HH.o.2.2.2.1]
    rw[←dE,←hA]at HX6;rw[←hA]at lT ⊢;clear Cw wL gZ hhx ax hnx hy jU;obtain⟨L1,hL1⟩:∃x:Nat,x=b.length-1:=⟨_,rfl⟩;obtain⟨D,hD⟩:∃x:Nat,x=b.length-A:=⟨_,rfl⟩;have E0:Hid (L1=b.length-1∧D=b.length-A∧la=at8 b (b.length-1)∧A=WS b):=⟨hL1,hD,dE,hA⟩;have WX:b.length≤512:=by omega
    have YZ:1≤b.length:=by omega
    rw[←hL1]at sy;have s1:IntKind.i64.wrap ((b.length:Int)-1)=(L1:Int):=by rw[Te _ Zo];omega
    have s2:IntKind.i64.wrap (la:Int)=(la:Int):=Te _ Zo;have s3:IntKind.i64.wrap ((b.length:Int)-(A:Int))=(D:Int):=by rw[Te _ Zo];omega
    have i8:(L1:Int)<(b.length:Int):=by omega
    have i9:(0:Int)≤(L1:Int):=n7 L1;have i7:L1<b.length:=by omega
    have hDL:D≤b.length:=by omega
    clear hL1 hD dE hA;go_upto_if 150 with fail
    go_cut [10] (fun iB wx=>iB = .int .i64 ((b.length-S9 b:Nat):Int)∧A≤b.length-S9 b∧(S9 b≤255∧S9 b≤b.length)∧X=(TD b (Ua b,A,b.length-S9 b),0)∧PG w wx (Qc mk (ty:Int) (sq:Int) (tm:Int) (sr:Int) a i q hx (pf:Int) xa (OO b).length xc none 0 0 ((S9 b:Nat):Int))∧Row wx 66 (.slice a i q) i (YN (xX b i))∧Row wx 5 (.slice xa (OO b).length xc) (OO b).length (Rx (OO b)))
    case first=>
     by_cases kY:at8 b 0/32%2=1
     rotate_left
     ·have d9:((y:Int).tmod 2==1)=false:=by rw[WM,Int.tmod_eq_emod_of_nonneg Zo];intro h;exact kY (HYY.o.1 Zo)
      have d9c:((y:Int)%2==1)=false:=by rw[WM];intro h;exact kY (HYY.o.1 Zo)
      have d9d:((x0:Int)/32%2==1)=false:=by rw[WM];intro h;have:=HH.o.2.2.2.1;exact kY Zo
      have hp0:S9 b=0:=Z3 kY;go_wp2_with fail
      go_meet;rw[hp0,Nat.sub_zero];exact⟨rfl,lT,⟨by decide,TH _⟩,by rw[HX6.o,Z3 (fun h=>kY h.1),Z3 (fun h=>kY h.1),hp0,Nat.sub_zero],HP.o,SR.o,oU.o⟩
     have d9:((y:Int).tmod 2==1)=true:=by rw[beq_iff_eq,Int.tmod_eq_emod_of_nonneg Zo];have:=HYY.o.2 kY;omega
     have d9c:((y:Int)%2==1)=true:=by rw[beq_iff_eq];have:=HYY.o.2 kY;omega
     have d9d:((x0:Int)/32%2==1)=true:=by rw[beq_iff_eq];have:=HH.o.2.2.2.1;omega
     have SV:S9 b=la:=by unfold S9;rw[ZU kY,E0.o.2.2.1]
     by_cases Ny:A=b.length∨la=0∨b.length-A<la
     ·rcases (show A=b.length∨(¬A=b.length∧la=0)∨(¬A=b.length∧¬la=0∧D<la) by have:=E0.o.2.1;omega)with hq1|⟨hq1,qo⟩|⟨hq1,qo,az⟩
      case' inl=>have e1:((A:Int)==(b.length:Int))=true:=by rw[beq_iff_eq];omega
      case' inr.inl=>have e1:((A:Int)==(b.length:Int))=false:=by rw[WM];omega
      case' inr.inl=>have e2:((la:Int)==0)=true:=by rw[beq_iff_eq];omega
      case' inr.inr=>have e1:((A:Int)==(b.length:Int))=false:=by rw[WM];omega
      case' inr.inr=>have e2:((la:Int)==0)=false:=by rw[WM];omega
      case' inr.inr=>have e3:decide ((D:Int)<(la:Int))=true:=Ww Zo
      case' inr.inr=>have e3n:decide (D<la)=true:=Ww az
      all_goals
       have VC:Hid (X=(WR,1)):=by show _=_;rw[HX6.o,ZU ⟨kY,Ny⟩]
       have TZ:=HP.o.z;have UH:=HP.o.Y8;go_wp2_with (first|(with_reducible refine Zl TZ underlying79 ?_)|(with_reducible refine Zs UH ?_))
       refine VD (v:= .tuple (Qz (Qc false 0 0 0 0 none 0 0 false 0 none 0 0 none 0 0 0) 0 0 1)) ?_ rfl ?_
       ·exact UM (p:=2) (u:=3) (v:=4) (x:=5) Zr _ _ w 79 (Qc false 0 0 0 0 none 0 0 false 0 none 0 0 none 0 0 0) (0,0) _ Zr (setRow_heap _ _ _ _ _ _ UH) underlying79 rfl Zk
       first|exact UF.o _ 1 HP.o.Zf VC.o|(obtain⟨⟨a,f,t,k1,k2⟩,k3⟩:=UF.o _ 1 HP.o.Zf VC.o;exact⟨⟨a,⟨f,t,k1⟩,k2⟩,k3⟩)
     have HX7:Hid (X=if¬(((b.drop (b.length-la)).take (la-1)).all (fun x=>decide (x=0))=true)then(WR,1)else(TD b (Ua b,A,b.length-S9 b),0)):=by
      show _=_;rw[HX6.o,Z3 (fun h=>Ny h.2)];simp only[kY,true_and]
     have e1:((A:Int)==(b.length:Int))=false:=by rw[WM];omega
     have e2:((la:Int)==0)=false:=by rw[WM];omega
     have e3:decide ((D:Int)<(la:Int))=false:=Wz (by have:=E0.o.2.1;omega);have e3n:decide (D<la)=false:=Wz (by have:=E0.o.2.1;omega);have hla1:1≤la:=by omega
     obtain⟨E,hE⟩:∃x:Nat,x=b.length-la:=⟨_,rfl⟩;have s4:IntKind.i64.wrap ((b.length:Int)-(la:Int))=(E:Int):=by rw[Te _ Zo];omega
     have hAE:A≤E:=by have:=E0.o.2.1;omega
     have cR:E≤L1:=by have:=E0.o.1;omega
     obtain⟨zv,Us,Hk⟩:=Wc (P:=prog) VG (some ⟨g,off,none⟩) b.length c E L1 cR Zo RV;have hs9:∀w,(Instr.slice 30 (.slice (some ⟨g,off,none⟩) b.length c) (some (.int .i64 (E:Int))) (some (.int .i64 (L1:Int))) none).run prog w = .ok (.slice zv (L1-E) (c-E)) w:=Us;obtain⟨m,hm⟩:∃m:Nat,m=L1-E:=⟨_,rfl⟩;obtain⟨c',Ks⟩:∃m:Nat,m=c-E:=⟨_,rfl⟩;have Aa:((b.drop E).take (L1-E)).length=m:=by rw[SY,Ra,hm];omega
     have jr:Hid (∀w',Below w w w'→X5 w' (.slice zv m c') ((b.drop E).take (L1-E))):=fun w' h=>by
      have h2:X5 w' _ _:=Oe Zo cR Hk (HV.o w' h);rw[←hm,←Ks]at h2;rw[←hm]at Aa ⊢;exact h2
     have oH:Hid (X=if¬(((b.drop E).take (L1-E)).all (fun x=>decide (x=0))=true)then(WR,1)else(TD b (Ua b,A,b.length-S9 b),0)):=by
      show _=_;rw[HX7.o,hE,show L1-(b.length-la)=la-1 by have:=E0.o.1;omega]
     rw[←hm,←Ks]at hs9;have dG:m≤512:=by omega
     generalize(b.drop E).take (L1-E)=zb at *
     have rO:=Zh Aa;have D4:Hid (E=b.length-S9 b∧S9 b=la):=⟨by rw[hE,SV],SV⟩;clear Us Hk hm Ks Aa HX7 Ny hE SV;have zc:=cell_of HP.o.Y8 10;simp only[SN,Sy,R4]at zc;have fc:=ZP HP.o.Y8 10;go_upto_region 38 with fail
     have SR:=Zh (QS SR.o HP.o.Y8 Zd 10 (.int .i64 (la:Int)));have oU:=Zh (QS oU.o HP.o.Y8 Zd 10 (.int .i64 (la:Int)));have HP:Hid (PG w (WC.setCell ⟨w,10,none⟩ (.int .i64 (la:Int))) (Qc mk (ty:Int) (sq:Int) (tm:Int) (sr:Int) a i q hx (pf:Int) xa (OO b).length xc none 0 0 (la:Int))):=HP.o.set 10 (.int .i64 (la:Int));clear zc fc;generalize WC.setCell ⟨w,10,none⟩ (.int .i64 (la:Int))=w8 at *
     have zc:=cell_of HP.o.Y8 10;simp only[SN,Sy,R4]at zc;go_wp2_with fail
     clear zc;go_loopw [193] (fun bh w'=>∃j:Nat,j≤m∧bh = .int .i64 (j:Int)∧w'=w8∧(zb.take j).all (fun x=>decide (x=0))=true) (fun bh _=>m-(intOf bh).toNat)
     case atStart=>exact⟨0,Zo,rfl,rfl,by rw[List.take_zero];rfl⟩
     case round=>
      obtain⟨j,hj,rfl,hwr,Uz⟩:=hrel;subst hwr;by_cases yB:j<m
      rotate_left
      ·have Mi:zb.take j=zb:=EM (by rw[rO.o];omega);rw[Mi]at Uz;have HFA:Hid (X=(TD b (Ua b,A,b.length-S9 b),0)):=by show _=_;rw[oH.o,Z3 (fun h=>h Uz)]
       have hjm2:j=m:=by omega
       subst hjm2;clear Uz Mi;go_wp2_with fail
       go_meet;exact⟨by rw[D4.o.1],by rw[←D4.o.1];exact hAE,⟨by rw[D4.o.2];omega,by rw[D4.o.2];have:=of_decide_eq_false e3n;omega⟩,HFA.o,by rw[D4.o.2];exact HP.o,SR.o,oU.o⟩
      obtain⟨g3,off3,cap3,e4,_,_,p7⟩:=RI (jr.o wr HP.o.Zf) (by rw[rO.o];omega);rw[rO.o]at e4;cases e4;have mB:=p7 j (by rw[rO.o];exact yB);have Cy:(j:Int)<(m:Int):=P6.2 yB;have hzj:zb[j]?=some (zb[j]'(by rw[rO.o];exact yB)):=Ve _;have hzt:=QX hzj;have V7:at8 zb j=(zb[j]'(by rw[rO.o];exact yB)).toNat:=by unfold at8;rw[Q_,hzj];rfl
      generalize zb[j]'(by rw[rO.o];exact yB)=zj at *
      obtain⟨u,hu⟩:∃u:Nat,u=at8 zb j:=⟨_,rfl⟩;rw[←hu]at mB V7;have HZJ:Hid (u=zj.toNat∧zb.take (j+1)=zb.take j++[zj]∧(zb.take j).all (fun x=>decide (x=0))=true):=⟨V7,hzt,Uz⟩;clear p7 hzj hzt V7 hu Uz;by_cases hu0:u=0
      rotate_left
      ·have e5:((u:Int)!=0)=true:=by rw[RH];omega
       have VC:Hid (X=(WR,1)):=by show _=_;rw[oH.o,ZU (fun h=>by have h2:=List.all_eq_true.1 h zj (by have e:zj∈zb.take (j+1):=(by rw[HZJ.o.2.1];simp);exact List.mem_of_mem_take e);exact hu0 (by rw[HZJ.o.1];have h3:=of_decide_eq_true h2;rw[h3];rfl))]
       have TZ:=HP.o.z;have UH:=HP.o.Y8;go_wp2_with (first|(with_reducible refine Zl TZ underlying79 ?_)|(with_reducible refine Zs UH ?_))
       refine VD (v:= .tuple (Qz (Qc false 0 0 0 0 none 0 0 false 0 none 0 0 none 0 0 0) 0 0 1)) ?_ rfl ?_
       ·exact Yt29
       first|exact UF.o _ 1 HP.o.Zf VC.o|(obtain⟨⟨a,f,t,k1,k2⟩,k3⟩:=UF.o _ 1 HP.o.Zf VC.o;exact⟨⟨a,⟨f,t,k1⟩,k2⟩,k3⟩)
      have e5:((u:Int)!=0)=false:=by rw[bne_eq_false_iff_eq];omega
      have HU0:Hid (zj=0):=UInt8.toNat_inj.1 (by rw[←HZJ.o.1,hu0];rfl);clear hu0;go_wp2_with fail
      go_roundw
      case rel=>exact⟨j+1,Zo,Zn,by first|rfl|trivial,by rw[HZJ.o.2.1,List.all_append,HZJ.o.2.2,HU0.o];rfl⟩
      case measure=>simp[intOf];omega
    case rest=>
     obtain⟨hs10,hAE,⟨hp255,hplb⟩,hXF,Cw,wL,gZ⟩:=hcut;obtain⟨WD,rfl⟩:∃W:World,W=wc:=⟨_,rfl⟩;subst hs10;obtain⟨E,hE⟩:∃x:Nat,x=b.length-S9 b:=⟨_,rfl⟩;rw[←hE]at hAE hXF ⊢;have cR:E≤b.length:=by omega
     have D4:Hid ((b.length:Int)-(E:Int)=((S9 b:Nat):Int)):=by show _=_;omega
     have HP:=Zh Cw;have SR:=Zh wL;have oU:=Zh gZ;have HXF2:=Zh hXF;obtain⟨zv,Us,Hk⟩:=Wc (P:=prog) VG (some ⟨g,off,none⟩) b.length c A E hAE cR RV;have hs9:∀w,(Instr.slice 30 (.slice (some ⟨g,off,none⟩) b.length c) (some (.int .i64 (A:Int))) (some (.int .i64 (E:Int))) none).run prog w = .ok (.slice zv (E-A) (c-A)) w:=Us;obtain⟨m,hm⟩:∃m:Nat,m=E-A:=⟨_,rfl⟩;obtain⟨c',Ks⟩:∃m:Nat,m=c-A:=⟨_,rfl⟩;have Aa:((b.drop A).take (E-A)).length=m:=by rw[SY,Ra,hm];omega
     have jr:Hid (XM WD (.slice zv m c') m (Rx ((b.drop A).take (E-A)))):=by
      have h2:X5 WD _ _:=Oe cR hAE Hk (HV.o WD HP.o.Zf);rw[←hm,←Ks]at h2;have h3:XM WD _ _ _:=h2;rw[←hm]at Aa ⊢;rw[Aa]at h3;exact h3
     have dG:m≤512:=by omega
     have E2:Hid (TD b (Ua b,A,E)=⟨mk,(ty:Int),(sq:Int),(tm:Int),(sr:Int),xX b i,hx,(pf:Int),OO b,(b.drop A).take (E-A),((S9 b:Nat):Int)⟩):=by
      obtain⟨g1,g2,g3,g4,g5⟩:=HH.o;obtain⟨g6,g7,g8⟩:=HM.o;obtain⟨g9,g10⟩:=HXF.o
      have f7:(if at8 b 0/16%2=1 then(get b ((Ua b:Int)-4) 2:Int)else 0)=(pf:Int):=by
       rw[g10];by_cases h:at8 b 0/16%2=1
       ·rw[ZU h,ZU h,HKX.o,ZU h,show((pos+4:Nat):Int)-4=(pos:Int) by omega]
       ·rw[Z3 h,Z3 h];rfl
      have f8:(if at8 b 0/16%2=1 then(b.drop (Ua b)).take (A-Ua b)else[])=OO b:=by unfold OO;rw[E0.o.2.2.2]
      show TD b (Ua b,A,E)=_;have e:TD b (Ua b,A,E)=⟨decide (128≤at8 b 1),((at8 b 1%128:Nat):Int),(get b 2 2:Nat),(get b 4 4:Nat),(get b 8 4:Nat),xX b (at8 b 0%16),decide (at8 b 0/16%2=1),if at8 b 0/16%2=1 then(get b ((Ua b:Int)-4) 2:Int)else 0,if at8 b 0/16%2=1 then(b.drop (Ua b)).take (A-Ua b)else[],(b.drop A).take (E-A),(b.length:Int)-(E:Int)⟩:=rfl;rw[e,f7,f8,D4.o,←g1,←g2,←g3,←g9,←g4,←g5,←g6,←g7,←g8]
     rw[←hm]at E2;rw[←hm]at jr;rw[←hm]at Aa;generalize(b.drop A).take m=xb at *
     rw[←hm,←Ks]at hs9;have rO:=Zh Aa;clear Us Hk hm Ks Aa hE Cw wL gZ hXF hAE;go_wp2_with (first|(at_builtin;refine PU rfl (.const (.slice none 0 0)) (.tmp 204) 30 rfl w VG (.slice none 0 0) 0 [] rfl (TV _ _ _ _) (.slice zv m c') m (Rx xb) rfl jr.o (by rw[Xg,rO.o,Nat.mul_one]) (AR _) Zo Zo HP.o.Zf.size (fun v9 w9 xh oJ=>?_);obtain⟨ea,ec,hev9⟩:=Row.form (Row.Z4 xh.o);subst hev9;have bA:=Zh (Ig oJ.o);have jK:=Zh (HP.o.below bA.o);have HRW9:=Zh (Row.below SR.o bA.o);have HRE9:=Zh (Row.below oU.o bA.o);have zc:=cell_of jK.o.Y8 9;simp only[SN,Sy,R4]at zc;have fc:=ZP jK.o.Y8 9;have UH:(w9.setCell ⟨w,9,none⟩ (.slice ea m ec)).heap[w.heap.size]?=some (.cells (Qc mk (ty:Int) (sq:Int) (tm:Int) (sr:Int) a i q hx (pf:Int) xa (OO b).length xc ea m ec ((S9 b:Nat):Int)) 79 (0,0)):=(jK.o.set 9 (.slice ea m ec)).Y8)|(with_reducible refine Zl UH underlying79 ?_)|(with_reducible refine Zs UH ?_))
     refine VD (v:= .tuple (Qz (Qc mk (ty:Int) (sq:Int) (tm:Int) (sr:Int) a i q hx (pf:Int) xa (OO b).length xc ea m ec ((S9 b:Nat):Int)) (A:Int) (E:Int) 0)) ?_ rfl ?_
     ·exact UM (p:=2) (u:=3) (v:=4) (x:=5) Zr _ _ w 79 (Qc mk (ty:Int) (sq:Int) (tm:Int) (sr:Int) a i q hx (pf:Int) xa (OO b).length xc ea m ec ((S9 b:Nat):Int)) (0,0) _ Zr (setRow_heap _ _ _ _ _ _ UH) underlying79 rfl Zk
     have hfin:NF ((w9.setCell ⟨w,9,none⟩ (.slice ea m ec)).setRow w (Qc mk (ty:Int) (sq:Int) (tm:Int) (sr:Int) a i q hx (pf:Int) xa (OO b).length xc ea m ec ((S9 b:Nat):Int))) (.agg (Qc mk (ty:Int) (sq:Int) (tm:Int) (sr:Int) a i q hx (pf:Int) xa (OO b).length xc ea m ec ((S9 b:Nat):Int))) X.1∧X.2=0∧Below w w ((w9.setCell ⟨w,9,none⟩ (.slice ea m ec)).setRow w (Qc mk (ty:Int) (sq:Int) (tm:Int) (sr:Int) a i q hx (pf:Int) xa (OO b).length xc ea m ec ((S9 b:Nat):Int))):=by
      rw[HXF2.o,E2.o];have h:=Row.Z4 xh.o;rw[PW,Hz,←rO.o]at h;have LG:(xX b i).length=i:=by unfold xX;rw[Tx,List.length_range]
      have hc9:Row w9 66 (.slice a (xX b i).length q) (xX b i).length (YN (xX b i)):=by rw[LG];exact HRW9.o
      have sr:∀ {e:TypeId} {v:Value} {n:Nat} {xs:List Value},79≠e→Row w9 e v n xs→Row ((w9.setCell ⟨w,9,none⟩ (.slice ea m ec)).setRow w (Qc mk (ty:Int) (sq:Int) (tm:Int) (sr:Int) a i q hx (pf:Int) xa (OO b).length xc ea m ec ((S9 b:Nat):Int))) e v n xs:=fun he hr=>Row.setRow (QS hr jK.o.Y8 he 9 _) UH (fun e=>he e.symm) _
      refine⟨⟨_,_,_,?_,sr Zd hc9,sr Zd HRE9.o,sr Zd h⟩,rfl,Z0 (jK.o.set 9 (.slice ea m ec)).Zf (Zw _) _⟩;unfold Gb;rw[LG,rO.o]
     obtain⟨k1,k2,k3⟩:=hfin;rw[k2]
     first|exact⟨⟨_,_,_,rfl,k1⟩,k3⟩|exact⟨⟨_,⟨_,_,rfl⟩,k1⟩,k3⟩):p:=h
theorem nj(v:Value)(b:List UInt8)(w:World)(hv:X5 w v b)(qf:at8 b 1<192) :
  Calls prog 94 #[v] w fun e w'=>(∃a f t,e = .returned (.tuple #[a,.int .i64 f,.int .i64 t,.int .i64 (YM b).2])∧NF w' a (YM b).1)∧Below w w w':=zi
theorem ni(v:Value)(b:List UInt8)(w:World)(hv:X5 w v b)(qf:192≤at8 b 1) :
  Calls prog 94 #[v] w fun e w'=>(∃a f t,e = .returned (.tuple #[a,.int .i64 f,.int .i64 t,.int .i64 (YM b).2])∧NF w' a (YM b).1)∧Below w w w':=zi
theorem qU(v:Value)(b:List UInt8)(w:World)(hv:X5 w v b) :
  Calls prog 94 #[v] w fun e w'=>(∃a f t,e = .returned (.tuple #[a,.int .i64 f,.int .i64 t,.int .i64 (YM b).2])∧NF w' a (YM b).1)∧Below w w w':=by
 by_cases h:at8 b 1<192
 ·exact nj v b w hv h
 ·exact ni v b w hv Zo
end Go.Proofs.By
