import Derived.Test.YtpdjhlcbcomdkaaGreatDoorS09
set_option linter.all false
set_option maxRecDepth 100000
set_option maxHeartbeats 16000000
open Go Go.Q Go.Qr Go.Proofs.Tryz Go.RowKit
namespace Go.Proofs.By
def Uy{P:Program}{fn:Func}{p u v x:Tmp}{ty:TypeId}(h:fn.results=#[.cell p ty,.tmp u,.tmp v,.tmp x])(tmps:Array Value)(w:World)(g:Nat)(t:TypeId)(cs:Array Value)(fr:Nat×Nat)(d:TypeDesc)
  (hp:tmps.getD p undef = .pointer (some ⟨g,0,none⟩)) (hg:w.heap[g]?=some (.cells cs t fr))
  (hu:P.underlying ty=some d) (hd:(match d with | .struct _ | .array _ _=>true|_=>false)=true) (hi:(P.info? ty).map (·.size)=some cs.size) :
  (results fn tmps).run P w = .ok (.tuple #[.agg cs,tmps.getD u undef,tmps.getD v undef,tmps.getD x undef]) w:=by
 exact Yt4
structure PG(w w':World)(cs:List Value):Prop where
 Za:Below w w w'
 z:w'.heap[w.heap.size+1]?=some (.cells (Qc false 0 0 0 0 none 0 0 false 0 none 0 0 none 0 0 0) 79 (0,0))
 Y8:w'.heap[w.heap.size]?=some (.cells cs.toArray 79 (0,0))
section
variable {w w1 w2:World} {cs:List Value}
def PG.below(h:PG w w1 cs)(hb:Below w1 w1 w2):PG w w2 cs:=⟨h.Za.trans (hb.mono h.Za.size),(hb.block _ (ZY h.z)).trans h.z,(hb.block _ (ZY h.Y8)).trans h.Y8⟩
def PG.set(h:PG w w1 cs)(j:Nat)(u:Value):PG w (w1.setCell ⟨w,j,none⟩ u) (cs.set j u):=by
 have h2:=Vu h.Y8 j u;rw[List.setIfInBounds_toArray]at h2;exact⟨((Fr.Z8 Pj h.Za).setCell (p:=⟨w,j,none⟩) (WQ (Zq _)) _).below,(L8 w1 ⟨w,j,none⟩ u (w.heap.size+1) (by show w.heap.size+1≠w.heap.size;omega)).trans h.z,h2⟩
def PG.grown(h:PG w w1 cs){e:TypeId}{size:Nat}{v:Value}{n:Nat}{xs:List Value}(ho:w1.ownsRow w e size v n xs)(he:79≠e)(hg:w1.grownBy w2 v.ownBlock):PG w w2 cs:=
 ⟨((Fr.Z8 Pj h.Za).grown hg h.Za.size (YG ho)).below,(hg.block _ (ZY h.z) (fun x=>Y0 ho he _ _ _ x.symm h.z)).trans h.z,(hg.block _ (ZY h.Y8) (fun x=>Y0 ho he _ _ _ x.symm h.Y8)).trans h.Y8⟩
def PG.start(w:World):PG w (((w.alloc (.cells (Qc false 0 0 0 0 none 0 0 false 0 none 0 0 none 0 0 0) 79)).alloc (.cells (Qc false 0 0 0 0 none 0 0 false 0 none 0 0 none 0 0 0) 79)).setRow (w.heap.size+1) (Qc false 0 0 0 0 none 0 0 false 0 none 0 0 none 0 0 0)) (Qc false 0 0 0 0 none 0 0 false 0 none 0 0 none 0 0 0)∧((w.alloc (.cells (Qc false 0 0 0 0 none 0 0 false 0 none 0 0 none 0 0 0) 79)).alloc (.cells (Qc false 0 0 0 0 none 0 0 false 0 none 0 0 none 0 0 0) 79)).heap[w.heap.size+1]?=some (.cells (Qc false 0 0 0 0 none 0 0 false 0 none 0 0 none 0 0 0) 79 (0,0)):=by
 have e1:(w.alloc (.cells (Qc false 0 0 0 0 none 0 0 false 0 none 0 0 none 0 0 0) 79)).heap.size=w.heap.size+1:=by show(w.heap.push _).size=_;rw[N9]
 have hz:((w.alloc (.cells (Qc false 0 0 0 0 none 0 0 false 0 none 0 0 none 0 0 0) 79)).alloc (.cells (Qc false 0 0 0 0 none 0 0 false 0 none 0 0 none 0 0 0) 79)).heap[w.heap.size+1]?=some (.cells (Qc false 0 0 0 0 none 0 0 false 0 none 0 0 none 0 0 0) 79 (0,0)):=by
  have h:=Z9 (w.alloc (.cells (Qc false 0 0 0 0 none 0 0 false 0 none 0 0 none 0 0 0) 79)) (.cells (Qc false 0 0 0 0 none 0 0 false 0 none 0 0 none 0 0 0) 79);rw[e1]at h;exact h
 refine⟨⟨Z0 (ZA (Z' w _) (Zq _) _) (JV _) _,setRow_heap _ _ _ _ _ _ hz,?_⟩,hz⟩;rw[setRow_other _ _ _ _ Zo,(Z' (w.alloc (.cells (Qc false 0 0 0 0 none 0 0 false 0 none 0 0 none 0 0 0) 79)) _).block _ (by rw[e1];omega)];exact Z9 w _
end
def xC(b:List UInt8)(n:Nat):List Int:=(List.range n).map fun(i:Nat)=>((get b (12+4*(i:Int)) 4:Nat):Int)
def qi{w:World}{B:Nat}{e:TypeId}{size:Nat}{v:Value}{n:Nat}{xs:List Value}(h:w.ownsRow B e size v n xs){g:Nat}{c:Array Value}{f:Nat×Nat}(hg:w.heap[g]?=some (.cells c 79 f))(he:79≠e)(o:Nat)(u:Value):(w.setCell ⟨g,o,none⟩ u).ownsRow B e size v n xs:=
 XO h fun j hj=>by
  by_cases hjg:j=g
  ·subst hjg;exact absurd hg (Y0 h he _ _ _ hj)
  ·exact L8 w ⟨g,o,none⟩ _ j hjg
def Om(b:List UInt8):List UInt8:=if at8 b 0/16%2=1 then(b.drop (TR b)).take (WJ b-TR b)else[]
def Hw{w w':World}(hg:w.grownBy w' (Value.slice none 0 0).ownBlock):Below w w w':=(YE _ _).grown hg (Zq _) (fun k hk=>by cases hk)
def QA{w:World}{e:TypeId}{v:Value}{n:Nat}{xs:List Value}(h:Row w e v n xs){g:Nat}{c:Array Value}{f:Nat×Nat}(hg:w.heap[g]?=some (.cells c 79 f))(he:79≠e)(o:Nat)(u:Value):Row (w.setCell ⟨g,o,none⟩ u) e v n xs:=
 Row.fr h ((Fr.refl w (· = g) w).setAt o u) (Zq _) (fun k c' fr hk hc=>by
  have hk:k=g:=hk;rw[hk,hg]at hc;injection hc with hc
  injection hc with _ hc
  exact he hc)
def FZ(w:World):Np w (.agg (Qc false 0 0 0 0 none 0 0 false 0 none 0 0 none 0 0 0)) WT:=⟨_,_,_,rfl,Row.nil _ _,Row.nil _ _,Row.nil _ _⟩
set_option maxRecDepth 1000000 in
def yM{p:Prop} (h:p:=by
 have CR:=Zh (fun(p q:Int) (w':World) (h:Below w w w')=>QL v b p q w' (hv.below h));have HX:Hid (YH b=Be b):=uW b;have HV:Hid (∀w',Below w w w'→XU w' v b):=fun w' h=>hv.below h
 obtain⟨⟨WO,hzz,gS⟩,hz⟩:=PG.start w;have HP:Hid (PG w (((w.alloc (.cells (Qc false 0 0 0 0 none 0 0 false 0 none 0 0 none 0 0 0) 79)).alloc (.cells (Qc false 0 0 0 0 none 0 0 false 0 none 0 0 none 0 0 0) 79)).setRow (w.heap.size+1) (Qc false 0 0 0 0 none 0 0 false 0 none 0 0 none 0 0 0)) (Qc false 0 0 0 0 none 0 0 false 0 none 0 0 none 0 0 0)):=⟨WO,hzz,gS⟩
 have Ur:Hid (∀w2 er,Below w w w2→YH b=(WT,er)→(∃a f t,Ending.returned (.tuple (Q0 (Qc false 0 0 0 0 none 0 0 false 0 none 0 0 none 0 0 0) 0 0 er)) = .returned (.tuple #[a,.int .i64 f,.int .i64 t,.int .i64 (YH b).2])∧Np (w2.setRow w (Qc false 0 0 0 0 none 0 0 false 0 none 0 0 none 0 0 0)) a (YH b).1)∧Below w w (w2.setRow w (Qc false 0 0 0 0 none 0 0 false 0 none 0 0 none 0 0 0))):=fun w2 er h2 h3=>by
  rw[h3];exact⟨⟨_,_,_,rfl,FZ _⟩,Z0 h2 (Zq _) _⟩
 obtain⟨va,c,rfl,Rt,tS⟩:∃a c,v = .slice a b.length c∧b.length≤c∧c≤maxLen:=by
  obtain⟨a,c,h1,h2,h3,_⟩:=id hv;exact⟨a,c,h1,h2,h3⟩
 clear hv WO hzz gS;generalize YH b=X at *;unfold Be at HX;go_enter func94,ntmps94;go_upto_region 2 with(with_reducible refine Zs hz ?_)
 clear hz;generalize((w.alloc (.cells (Qc false 0 0 0 0 none 0 0 false 0 none 0 0 none 0 0 0) 79)).alloc (.cells (Qc false 0 0 0 0 none 0 0 false 0 none 0 0 none 0 0 0) 79)).setRow (w.heap.size+1) (Qc false 0 0 0 0 none 0 0 false 0 none 0 0 none 0 0 0)=w1 at *;by_cases h1:512<b.length
 ·have l1:decide ((512:Int)<(b.length:Int))=true:=WV Zo;have Vc:Hid (X=(WT,5)):=by show _=_;rw[HX.o,ZU h1]
  have TS:=HP.o.z;have Uu:=HP.o.Y8;go_wp2_with (first|with_reducible refine Zl TS underlying79 ?_|with_reducible refine Zs Uu ?_)
  refine Vr (v:= .tuple (Q0 (Qc false 0 0 0 0 none 0 0 false 0 none 0 0 none 0 0 0) 0 0 5)) ?_ rfl ?_
  ·exact Yt22
  first|exact Ur.o _ 5 HP.o.Za Vc.o|(obtain⟨⟨a,f,t,k1,k2⟩,k3⟩:=Ur.o _ 5 HP.o.Za Vc.o;exact⟨⟨a,⟨f,t,k1⟩,k2⟩,k3⟩)
 have l1:decide ((512:Int)<(b.length:Int))=false:=WH Zo;by_cases h2:b.length<12
 ·have l2:decide ((b.length:Int)<12)=true:=WV Zo;have Vc:Hid (X=(WT,2)):=by show _=_;rw[HX.o,Z3 h1,ZU h2]
  have TS:=HP.o.z;have Uu:=HP.o.Y8;go_wp2_with (first|with_reducible refine Zl TS underlying79 ?_|with_reducible refine Zs Uu ?_)
  exact Yt1
 have l2:decide ((b.length:Int)<12)=false:=WH Zo;rw[Z3 h1,Z3 h2]at HX;obtain⟨g,off,cap,e1,_,_,hc⟩:=Rk (HV.o w1 HP.o.Za) Zo;cases e1;have d0:=hc 0 Zo;have d1:=hc 1 Zo
 have HD:Hid (∀w',Below w w w'→∀j,j<b.length→w'.cell? ⟨g,off+j,none⟩=some (.int .u8 (at8 b j:Int))):=fun w' h j hj=>by
  obtain⟨_,_,_,e,_,_,hc⟩:=Rk (HV.o w' h) Zo;cases e;exact hc j hj
 rw[bG]at d0;have i0:(0:Int)<(b.length:Int):=by omega
 have i1:(1:Int)<(b.length:Int):=by omega
 have r0:=Xd b 0;have r1:=Xd b 1;clear hc;obtain⟨x0,PE⟩:∃x,x=at8 b 0:=⟨_,rfl⟩;obtain⟨x1,Sg⟩:∃x,x=at8 b 1:=⟨_,rfl⟩;have aw:Hid (∀w',Below w w w'→w'.cell? ⟨g,off,none⟩=some (.int .u8 (x0:Int))∧w'.cell? ⟨g,off+1,none⟩=some (.int .u8 (x1:Int))):=fun w' h=>⟨by have k:=HD.o w' h 0 Zo;rw[bG,←PE]at k;exact k,by rw[Sg];exact HD.o w' h 1 Zo⟩
 rw[←PE]at d0 r0;rw[←Sg]at d1 r1;by_cases h3:x0<128∨191<x0
 ·by_cases h3a:x0<128
  case' pos=>have q3:decide ((x0:Int)<128)=true:=WV Zo
  case' neg=>have q3:decide ((x0:Int)<128)=false:=WH Zo;have q4:decide ((191:Int)<(x0:Int))=true:=WV Zo
  all_goals
   have Vc:Hid (X=(WT,1)):=by show _=_;rw[HX.o,ZU (by rw[←PE];exact h3)]
   have TS:=HP.o.z;have Uu:=HP.o.Y8;go_wp2_with (first|with_reducible refine Zl TS underlying79 ?_|with_reducible refine Zs Uu ?_)
   refine Vr (v:= .tuple (Q0 (Qc false 0 0 0 0 none 0 0 false 0 none 0 0 none 0 0 0) 0 0 1)) ?_ rfl ?_
   ·exact Uy (p:=2) (u:=3) (v:=4) (x:=5) Zr _ _ w 79 (Qc false 0 0 0 0 none 0 0 false 0 none 0 0 none 0 0 0) (0,0) _ Zr (setRow_heap _ _ _ _ _ _ Uu) underlying79 rfl Zk
   first|exact Ur.o _ 1 HP.o.Za Vc.o|(obtain⟨⟨a,f,t,k1,k2⟩,k3⟩:=Ur.o _ 1 HP.o.Za Vc.o;exact⟨⟨a,⟨f,t,k1⟩,k2⟩,k3⟩)
 have q3:decide ((x0:Int)<128)=false:=WH Zo;have q4:decide ((191:Int)<(x0:Int))=false:=WH Zo;rw[Z3 (by rw[←PE];exact h3)]at HX;by_cases h4:192≤x1∧x1≤223
 ·try(exfalso;omega)
  all_goals
   have q5:decide ((192:Int)≤(x1:Int))=true:=WV Zo;have q6:decide ((x1:Int)≤223)=true:=WV Zo;have Vc:Hid (X=(WT,4)):=by show _=_;rw[HX.o,ZU (by rw[←Sg];exact h4)]
   have TS:=HP.o.z;have Uu:=HP.o.Y8;go_wp2_with (first|with_reducible refine Zl TS underlying79 ?_|with_reducible refine Zs Uu ?_)
   refine Vr (v:= .tuple (Q0 (Qc false 0 0 0 0 none 0 0 false 0 none 0 0 none 0 0 0) 0 0 4)) ?_ rfl ?_
   ·exact Uy (p:=2) (u:=3) (v:=4) (x:=5) Zr _ _ w 79 (Qc false 0 0 0 0 none 0 0 false 0 none 0 0 none 0 0 0) (0,0) _ Zr (setRow_heap _ _ _ _ _ _ Uu) underlying79 rfl Zk
   first|exact Ur.o _ 4 HP.o.Za Vc.o|(obtain⟨⟨a,f,t,k1,k2⟩,k3⟩:=Ur.o _ 4 HP.o.Za Vc.o;exact⟨⟨a,⟨f,t,k1⟩,k2⟩,k3⟩)
 rw[Z3 (by rw[←Sg];exact h4)]at HX;obtain⟨sq,cF⟩:∃x:Nat,x=get b 2 2:=⟨_,rfl⟩;obtain⟨tm,fU⟩:∃x:Nat,x=get b 4 4:=⟨_,rfl⟩;obtain⟨sr,hsr⟩:∃x:Nat,x=get b 8 4:=⟨_,rfl⟩;have C2:=Zh (fun(w':World) (h:Below w w w')=>CR.o 2 2 w' h);have C4:=Zh (fun(w':World) (h:Below w w w')=>CR.o 4 4 w' h);have C8:=Zh (fun(w':World) (h:Below w w w')=>CR.o 8 4 w' h);rw[←cF]at C2;rw[←fU]at C4;rw[←hsr]at C8;have bsq:IntKind.u16.wrap (sq:Int)=(sq:Int):=by have:=Mi b 2;rw[IntKind.wrap_u16];omega
 have btm:IntKind.u32.wrap (tm:Int)=(tm:Int):=by have:=WL b 4;rw[Nr];omega
 have bsr:IntKind.u32.wrap (sr:Int)=(sr:Int):=by have:=WL b 8;rw[Nr];omega
 have HH:Hid (sq=get b 2 2∧tm=get b 4 4∧sr=get b 8 4∧x0=at8 b 0∧x1=at8 b 1):=⟨cF,fU,hsr,PE,Sg⟩;obtain⟨ty,GH⟩:∃x:Nat,x=x1%128:=⟨_,rfl⟩;obtain⟨mk,cr⟩:∃x:Bool,x=decide (128≤x1):=⟨_,rfl⟩;obtain⟨cc,hcc2⟩:∃x:Nat,x=x0%16:=⟨_,rfl⟩;have p1:(x1:Int).tmod 128=(ty:Int):=by rw[Int.tmod_eq_emod_of_nonneg Zo];omega
 have p1c:(x1:Int)%128=(ty:Int):=by omega
 have p1b:IntKind.i64.wrap (ty:Int)=(ty:Int):=SZ _ Zo;have p2:decide ((128:Int)≤(x1:Int))=mk:=by rw[cr,Bool.eq_iff_iff,Su,Su];omega
 have p3:(x0:Int).tmod 16=(cc:Int):=by rw[Int.tmod_eq_emod_of_nonneg Zo];omega
 have p3c:(x0:Int)%16=(cc:Int):=by omega
 have p3b:IntKind.i64.wrap (cc:Int)=(cc:Int):=SZ _ Zo;have hcc16:cc<16:=by omega
 have HM:Hid (ty=x1%128∧mk=decide (128≤x1)∧cc=x0%16):=⟨GH,cr,hcc2⟩;have D3:¬b.length<12:=h2;have hb512:¬512<b.length:=h1;first
 | (have q5:decide ((192:Int)≤(x1:Int))=false:=WH Zo)
 | (have q5:decide ((192:Int)≤(x1:Int))=true:=WV Zo;have q6:decide ((x1:Int)≤223)=false:=WH Zo)
 clear cF fU hsr PE Sg GH cr hcc2 h1 h2 h3 h4 pF;go_upto_region 10 with fail
 have zc:=cell_of HP.o.Y8 1;simp only[Ss,R_,Rw]at zc;have fc:=ZP HP.o.Y8 1;go_upto_region 11 with fail
 have HP:Hid (PG w (w1.setCell ⟨w,1,none⟩ (.int .i64 (ty:Int))) (Qc false (ty:Int) 0 0 0 none 0 0 false 0 none 0 0 none 0 0 0)):=HP.o.set 1 (.int .i64 (ty:Int));clear zc fc;generalize w1.setCell ⟨w,1,none⟩ (.int .i64 (ty:Int))=w2 at *;obtain⟨d0,d1⟩:=aw.o w2 HP.o.Za;have zc:=cell_of HP.o.Y8 0;simp only[Ss,R_,Rw]at zc;have fc:=ZP HP.o.Y8 0;go_upto_region 12 with fail
 have HP:Hid (PG w (w2.setCell ⟨w,0,none⟩ (.bool mk)) (Qc mk (ty:Int) 0 0 0 none 0 0 false 0 none 0 0 none 0 0 0)):=HP.o.set 0 (.bool mk);clear zc fc;generalize w2.setCell ⟨w,0,none⟩ (.bool mk)=w3 at *;have zc:=cell_of HP.o.Y8 2;simp only[Ss,R_,Rw]at zc;have fc:=ZP HP.o.Y8 2;go_upto_region 13 with(go_at_call 118;refine(C2.o _ HP.o.Za).mono ?_;rintro e w' ⟨rfl,rfl⟩)
 have HP:Hid (PG w (w3.setCell ⟨w,2,none⟩ (.int .u16 (sq:Int))) (Qc mk (ty:Int) (sq:Int) 0 0 none 0 0 false 0 none 0 0 none 0 0 0)):=HP.o.set 2 (.int .u16 (sq:Int));clear zc fc;generalize w3.setCell ⟨w,2,none⟩ (.int .u16 (sq:Int))=w4 at *;have zc:=cell_of HP.o.Y8 3;simp only[Ss,R_,Rw]at zc;have fc:=ZP HP.o.Y8 3;go_upto_region 14 with(go_at_call 118;refine(C4.o _ HP.o.Za).mono ?_;rintro e w' ⟨rfl,rfl⟩)
 have HP:Hid (PG w (w4.setCell ⟨w,3,none⟩ (.int .u32 (tm:Int))) (Qc mk (ty:Int) (sq:Int) (tm:Int) 0 none 0 0 false 0 none 0 0 none 0 0 0)):=HP.o.set 3 (.int .u32 (tm:Int));clear zc fc;generalize w4.setCell ⟨w,3,none⟩ (.int .u32 (tm:Int))=w5 at *;have zc:=cell_of HP.o.Y8 4;simp only[Ss,R_,Rw]at zc;have fc:=ZP HP.o.Y8 4;go_upto_region 15 with(go_at_call 118;refine(C8.o _ HP.o.Za).mono ?_;rintro e w' ⟨rfl,rfl⟩)
 have HP:Hid (PG w (w5.setCell ⟨w,4,none⟩ (.int .u32 (sr:Int))) (Qc mk (ty:Int) (sq:Int) (tm:Int) (sr:Int) none 0 0 false 0 none 0 0 none 0 0 0)):=HP.o.set 4 (.int .u32 (sr:Int));clear zc fc;generalize w5.setCell ⟨w,4,none⟩ (.int .u32 (sr:Int))=w6 at *;obtain⟨d0,d1⟩:=aw.o w6 HP.o.Za;clear C2 C4 C8 bsq btm bsr p1 p1c p1b p2 q3 q4 q5;go_wp2_with fail
 clear d0 d1 p3 p3c p3b;go_loopw [7,8] (fun s7 s8 w'=>∃(i pos k:Nat) (a:Option Addr) (q:Nat),i+k=cc∧pos=12+4*i∧pos≤b.length∧s7 = .int .i64 (pos:Int)∧s8 = .int .i64 (k:Int)∧PG w w' (Qc mk (ty:Int) (sq:Int) (tm:Int) (sr:Int) a i q false 0 none 0 0 none 0 0 0)∧w'.ownsRow w 66 1 (.slice a i q) i (YF (xC b i))) (fun _ s8 _=>(intOf s8).toNat)
 case atStart=>exact⟨0,12,cc,none,0,Zo,Zo,Zo,rfl,rfl,HP.o,TH _ _ _ _⟩
 case round=>
  obtain⟨i,pos,k,a,q,hik,PC,kN,rfl,rfl,Ch,Yy⟩:=hrel;have HP:=Zh Ch;have HO:=Zh Yy;clear Ch Yy;by_cases cg:0<k
  ·have dk:decide ((0:Int)<(k:Int))=true:=WV Zo;have cz:IntKind.i64.wrap ((pos:Int)+4)=(pos:Int)+4:=SZ _ Zo;by_cases h7:b.length<pos+4
   ·have l7:decide ((b.length:Int)<(pos:Int)+4)=true:=WV Zo;have Vc:Hid (X=(WT,2)):=by show _=_;rw[HX.o,ZU (by have:=HM.o.2.2;have:=HH.o.2.2.2.1;omega)]
    have TS:=HP.o.z;have Uu:=HP.o.Y8;go_wp2_with (first|with_reducible refine Zl TS underlying79 ?_|with_reducible refine Zs Uu ?_)
    exact Yt1
   have l7:decide ((b.length:Int)<(pos:Int)+4)=false:=WH Zo;obtain⟨y0,hy0⟩:∃x:Nat,x=get b (pos:Int) 4:=⟨_,rfl⟩
   have Lc:Hid (xC b (i+1)=xC b i++[(y0:Int)]):=by
    show _=_;rw[hy0,PC];unfold xC;rw[ny,Ng];simp
   have C0:=Zh (fun(w':World) (h:Below w w w')=>CR.o (pos:Int) 4 w' h);rw[←hy0]at C0;have Nh:IntKind.u32.wrap (y0:Int)=(y0:Int):=by have:=WL b (pos:Int);rw[Nr];omega
   have hkm:IntKind.i64.wrap ((k:Int)-1)=((k-1:Nat):Int):=by rw[SZ _ Zo];omega
   have Cq:pos≤512:=by omega
   have Nb:Hid (i+k=cc∧pos=12+4*i∧0<k∧pos+4≤b.length):=⟨hik,PC,cg,Zo⟩;have hi16:i≤16:=by omega
   clear PC hy0 hik kN h7;go_upto_region 21 with fail
   have HP:=Zh (HP.o.below (YE _ _).drew);have HO:=Zh (Yq HO.o (YE _ _).drew);have k0:(wr.drew).cell? ⟨w,5,none⟩=some (.slice a i q):=Zc HP.o.Y8 5 rfl;refine RX ?_;refine Zj (d:=9) (S:=(fun w'=>w'.cell? ⟨w,5,none⟩=some (.slice a i q))) Zk ?_ (fun XY=>?_)
   ·exact k0
   refine YP 0 (h:=YP 2 (h:=YP 3 (h:=YK 1 (h:=?_))));refine YR 4 (h:=fun K hK=>?_);go_simp;refine(C0.o _ HP.o.Za).mono ?_;rintro e w' ⟨rfl,rfl⟩;go_wp2_with fail
   refine YY hK _ _ ?_ (fun XC=>?_)
   ·exact k0
   clear hK K;try simp only[pt]
   refine YP 5 (h:=?_);refine YR 6 (h:=fun K hK=>?_);refine Yg Zr Ve (.tmp 91) Zr (.int .u32 (y0:Int)) Zr rfl ?_;have HP:=Zh (HP.o.below (Z' wr.drew (.cells #[.int .u32 (y0:Int)] 66)));have HO:=Zh (Yq HO.o (Z' wr.drew (.cells #[.int .u32 (y0:Int)] 66)));have k1:=cell_of HP.o.Y8 5;simp only[Ss,R_,Rw]at k1;refine YY hK _ _ ?_ (fun Vq=>?_)
   ·exact k1
   clear hK K;try simp only[pt]
   refine YR 7 (h:=fun K hK=>?_);refine Y9 Zr (.tmp 87) (.tmp 92) 29 Zr w Ve (.slice a i q) i (YF (xC b i)) Zr HO.o _ 1 (YF [(y0:Int)]) Zr (Vw wr.drew 66 1 (YF [(y0:Int)]) Zd) rfl (JD _) Zo Zo ?_ ?_
   ·exact HP.o.Za.size
   intro v' w7 Hf wG;obtain⟨na,nq,Na,-⟩:=Row.Z4 Hf.o;subst Na;have HP:=Zh (HP.o.grown HO.o Zd wG.o);have HO:Hid (w7.ownsRow w 66 1 (.slice na (i+1) nq) (i+1) (YF (xC b i++[(y0:Int)]))):=(by have h:=Hf.o;rw[show YF (xC b i)++YF [(y0:Int)]=YF (xC b i++[(y0:Int)])from(Ng ..).symm]at h;exact h);have k2:=cell_of HP.o.Y8 5;simp only[Ss,R_,Rw]at k2;have f2:=ZP HP.o.Y8 5;refine YY hK _ _ ?_ (fun MB=>?_)
   ·exact k2
   clear hK K;try simp only[pt]
   refine YP 8 (h:=?_);refine YR 9 (h:=fun K hK=>?_);go_simp;refine Ye hK _ _ Zk ?_;clear hK K;try simp only[pt]
   refine Yt Zk ?_ _;refine QP ?_;go_wp2_with fail
   go_roundw
   case rel=>
    refine⟨i+1,pos+4,k-1,na,nq,by have:=Nb.o;omega,by have:=Nb.o;omega,by have:=Nb.o;omega,Zn,rfl,HP.o.set 5 (.slice na (i+1) nq),?_⟩;rw[Lc.o];exact qi HO.o HP.o.Y8 Zd _ _
   case measure=>have:=Nb.o;simp[intOf];omega
  ·obtain rfl:k=0:=by omega
   obtain rfl:i=cc:=by omega
   have R8:=Zh (Row.Z4 HO.o);have Nb:Hid (pos=12+4*i∧pos≤b.length):=⟨PC,kN⟩;have Cq:pos≤512:=by omega
   obtain⟨d0,d1⟩:=aw.o wr HP.o.Za;obtain⟨y,hy⟩:∃y:Nat,y=x0/16:=⟨_,rfl⟩;have p1:IntKind.u8.wrap ((x0:Int)/16)=(y:Int):=by rw[IntKind.wrap_u8];omega
   have pP:(y%2=1)↔at8 b 0/16%2=1:=by rw[hy,HH.o.2.2.2.1]
   have BG:=Zh pP;clear HO hik PC kN cg pP hy;have HKE:Hid (WJ b=if at8 b 0/16%2=1 then pos+4+4*get b ((pos:Int)+2) 2 else pos):=by show _=_;unfold WJ;rw[Nb.o.1,HM.o.2.2,HH.o.2.2.2.1]
   have HKX:Hid (TR b=if at8 b 0/16%2=1 then pos+4 else pos):=by show _=_;unfold TR;rw[Nb.o.1,HM.o.2.2,HH.o.2.2.2.1]
   have iY:Hid (X=if at8 b 0/16%2=1∧b.length<pos+4 then(WT,2)else if b.length<WJ b then(WT,2)else if at8 b 0/32%2=1∧(WJ b=b.length∨at8 b (b.length-1)=0∨b.length-WJ b<at8 b (b.length-1))then(WT,1)else if at8 b 0/32%2=1∧¬(((b.drop (b.length-at8 b (b.length-1))).take (at8 b (b.length-1)-1)).all (fun x=>decide (x=0))=true)then(WT,1)else(Ti b (TR b,WJ b,b.length-SN b),0)):=by
    have e:12+4*(at8 b 0%16)=pos:=by rw[Nb.o.1,HM.o.2.2,HH.o.2.2.2.1]
    show _=_;rw[HX.o,e,Z3 (by have:=Nb.o.2;omega)]
   clear HX;go_upto_if 102 with fail
   go_cut [7] (fun s7 wx=>∃(hx:Bool) (pf:Nat) (ev:Value),s7 = .int .i64 ((WJ b:Nat):Int)∧WJ b≤b.length∧¬(at8 b 0/16%2=1∧b.length<pos+4)∧hx=decide (at8 b 0/16%2=1)∧pf=(if at8 b 0/16%2=1 then get b (pos:Int) 2 else 0)∧PG w wx [.bool mk,.int .i64 (ty:Int),.int .u16 (sq:Int),.int .u32 (tm:Int),.int .u32 (sr:Int),.slice a i q,.bool hx,.int .u16 (pf:Int),ev,.slice none 0 0,.int .i64 0]∧Row wx 66 (.slice a i q) i (YF (xC b i))∧Row wx 5 ev (Om b).length (Re (Om b)))
   case first=>
    by_cases hex:at8 b 0/16%2=1
    rotate_left
    ·have d9:((y:Int).tmod 2==1)=false:=by rw[Wz,Int.tmod_eq_emod_of_nonneg Zo];intro h;exact hex (BG.o.1 Zo)
     have d9c:((y:Int)%2==1)=false:=by rw[Wz];intro h;exact hex (BG.o.1 Zo)
     have d9d:((x0:Int)/16%2==1)=false:=by rw[Wz];intro h;have:=HH.o.2.2.2.1;exact hex Zo
     go_wp2_with fail
     go_meet;have e1:=HKE.o;rw[Z3 hex]at e1;exact⟨false,0,.slice none 0 0,by rw[e1],by rw[e1];exact Nb.o.2,fun h=>hex h.1,(WH hex).symm,(Z3 hex).symm,HP.o,R8.o,by rw[show Om b=[]from Z3 hex];exact Row.nil _ _⟩
    ·have d9:((y:Int).tmod 2==1)=true:=by rw[beq_iff_eq,Int.tmod_eq_emod_of_nonneg Zo];have:=BG.o.2 hex;omega
     have d9c:((y:Int)%2==1)=true:=by rw[beq_iff_eq];have:=BG.o.2 hex;omega
     have d9d:((x0:Int)/16%2==1)=true:=by rw[beq_iff_eq];have:=HH.o.2.2.2.1;omega
     have cz:IntKind.i64.wrap ((pos:Int)+4)=(pos:Int)+4:=SZ _ Zo;by_cases h8:b.length<pos+4
     ·have l7:decide ((b.length:Int)<(pos:Int)+4)=true:=WV Zo;have Vc:Hid (X=(WT,2)):=by show _=_;rw[iY.o,ZU ⟨hex,h8⟩]
      have TS:=HP.o.z;have Uu:=HP.o.Y8;go_wp2_with (first|with_reducible refine Zl TS underlying79 ?_|with_reducible refine Zs Uu ?_)
      exact Yt1
     have l8:decide ((b.length:Int)<(pos:Int)+4)=false:=WH Zo;obtain⟨nw,hnw⟩:∃x:Nat,x=get b ((pos:Int)+2) 2:=⟨_,rfl⟩;obtain⟨pf,hpf⟩:∃x:Nat,x=get b (pos:Int) 2:=⟨_,rfl⟩;have hn16:nw<65536:=by rw[hnw];exact Mi b _
     have C9:=Zh (fun(w':World) (h:Below w w w')=>CR.o ((pos:Int)+2) 2 w' h);have CF:=Zh (fun(w':World) (h:Below w w w')=>CR.o (pos:Int) 2 w' h);rw[←hnw]at C9;rw[←hpf]at CF;have s2:IntKind.i64.wrap ((pos:Int)+2)=(pos:Int)+2:=SZ _ Zo;have s3:IntKind.i64.wrap (nw:Int)=(nw:Int):=SZ _ Zo;have s4:IntKind.i64.wrap (4*(nw:Int))=4*(nw:Int):=SZ _ Zo;obtain⟨Z,hZ⟩:∃Z:Nat,Z=pos+4+4*nw:=⟨_,rfl⟩;have s5:IntKind.i64.wrap ((pos:Int)+4+4*(nw:Int))=(Z:Int):=by rw[SZ _ Zo];omega
     have s6:IntKind.i64.wrap (4+4*(nw:Int))=4+4*(nw:Int):=SZ _ Zo;have s7:IntKind.i64.wrap ((pos:Int)+(4+4*(nw:Int)))=(Z:Int):=by rw[SZ _ Zo];omega
     have s8:IntKind.u16.wrap (pf:Int)=(pf:Int):=by rw[hpf];have:=Mi b (pos:Int);rw[IntKind.wrap_u16];omega
     have Hg:Hid (WJ b=Z):=by show _=_;rw[HKE.o,ZU hex,hZ,hnw]
     have HPF:=Zh hpf;have hzl:pos+4≤Z:=by omega
     clear hnw hpf hZ;by_cases h9:b.length<Z
     ·have l9:decide ((b.length:Int)<(Z:Int))=true:=WV Zo;have Vc:Hid (X=(WT,2)):=by show _=_;rw[iY.o,Z3 (fun h=>h8 h.2),ZU (by rw[Hg.o];exact h9)]
      have TS:=HP.o.z;have Uu:=HP.o.Y8;go_wp2_with (first|(go_at_call 118;refine(C9.o _ HP.o.Za).mono ?_;rintro e w' ⟨rfl,rfl⟩)|with_reducible refine Zl TS underlying79 ?_|with_reducible refine Zs Uu ?_)
      exact Yt1
     have l9:decide ((b.length:Int)<(Z:Int))=false:=WH Zo;obtain⟨vs,Uf,G'⟩:=VZ (P:=prog) Vt (some ⟨g,off,none⟩) b.length c (pos+4) Z hzl Zo Rt;have hs9:∀w,(Instr.slice 30 (.slice (some ⟨g,off,none⟩) b.length c) (some (.int .i64 ((pos:Int)+4))) (some (.int .i64 (Z:Int))) none).run prog w = .ok (.slice vs (Z-(pos+4)) (c-(pos+4))) w:=Uf;obtain⟨m,hm⟩:∃m:Nat,m=Z-(pos+4):=⟨_,rfl⟩;obtain⟨c',Kf⟩:∃m:Nat,m=c-(pos+4):=⟨_,rfl⟩;have AV:((b.drop (pos+4)).take (Z-(pos+4))).length=m:=by rw[SC,QG,hm];omega
     have iy:Hid (∀w',Below w w w'→XG w' (.slice vs m c') m (Re ((b.drop (pos+4)).take (Z-(pos+4))))):=fun w' h=>by
      have h2:XU w' _ _:=NS Zo hzl G' (HV.o w' h);rw[←hm,←Kf]at h2;have h3:XG w' _ _ _:=h2;rw[←hm]at AV;rw[AV]at h3;rw[hm];rw[hm]at h3;exact h3
     rw[←hm,←Kf]at hs9;have HEB:Hid (Om b=(b.drop (pos+4)).take (Z-(pos+4))):=by show _=_;unfold Om;rw[ZU hex,Hg.o,HKX.o,ZU hex]
     have ck:m≤512:=by omega
     generalize(b.drop (pos+4)).take (Z-(pos+4))=xb at *;have rf:=Zh AV;clear Uf G' hm Kf AV;have zc:=cell_of HP.o.Y8 6;simp only[Ss,R_,Rw]at zc;have fc:=ZP HP.o.Y8 6;have zY:=HP;go_upto_region 30 with(go_at_call 118;refine(C9.o _ HP.o.Za).mono ?_;rintro e w' ⟨rfl,rfl⟩)
     have HP:Hid (PG w (wr.setCell ⟨w,6,none⟩ (.bool true)) (Qc mk (ty:Int) (sq:Int) (tm:Int) (sr:Int) a i q true 0 none 0 0 none 0 0 0)):=HP.o.set 6 (.bool true);have R8:=Zh (QA R8.o zY.o.Y8 Zd 6 (.bool true));clear zc fc zY;generalize wr.setCell ⟨w,6,none⟩ (.bool true)=w7 at *;have zc:=cell_of HP.o.Y8 7;simp only[Ss,R_,Rw]at zc;have fc:=ZP HP.o.Y8 7;have zY:=HP;go_upto_region 31 with(go_at_call 118;refine(CF.o _ HP.o.Za).mono ?_;rintro e w' ⟨rfl,rfl⟩)
     have HP:Hid (PG w (w7.setCell ⟨w,7,none⟩ (.int .u16 (pf:Int))) (Qc mk (ty:Int) (sq:Int) (tm:Int) (sr:Int) a i q true (pf:Int) none 0 0 none 0 0 0)):=HP.o.set 7 (.int .u16 (pf:Int));have R8:=Zh (QA R8.o zY.o.Y8 Zd 7 (.int .u16 (pf:Int)));clear zc fc zY;generalize w7.setCell ⟨w,7,none⟩ (.int .u16 (pf:Int))=w8 at *;have HBR8:=Zh (iy.o w8 HP.o.Za);go_wp2_with (at_builtin;refine Py rfl (.const (.slice none 0 0)) (.tmp 136) 30 rfl w Vt (.slice none 0 0) 0 [] rfl (TH _ _ _ _) (.slice vs m c') m (Re xb) rfl HBR8.o (by rw[Xa,rf.o,Nat.mul_one]) (Ap _) Zo Zo HP.o.Za.size (fun v9 w9 wJ nP=>?_);obtain⟨ea,ec,hev9⟩:=Row.form (Row.Z4 wJ.o);subst hev9;have sJ:=Zh (Hw nP.o);have vO:=Zh (HP.o.below sJ.o);have HRW9:=Zh (Row.below R8.o sJ.o);have zc:=cell_of vO.o.Y8 8;simp only[Ss,R_,Rw]at zc;have fc:=ZP vO.o.Y8 8)
     go_meet;refine⟨true,pf,.slice ea m ec,by rw[Hg.o],by rw[Hg.o];omega,fun h=>h8 h.2,(WV hex).symm,by rw[ZU hex,HPF.o],vO.o.set 8 (.slice ea m ec),QA HRW9.o vO.o.Y8 Zd 8 _,?_⟩;rw[HEB.o,rf.o];have h:=Row.Z4 wJ.o;rw[PA,IC]at h;exact QA h vO.o.Y8 Zd 8 _
   case rest=>
    clear Nb BG R8 Cq p1 d0 d1;obtain⟨hx,pf,ev,hs7,kN,hnx,hhx,hpf,Ch,vV,fP⟩:=hcut;obtain⟨WC,rfl⟩:∃W:World,W=wc:=⟨_,rfl⟩;subst hs7;obtain⟨xa,xc,rfl⟩:=Row.form fP;have HP:=Zh Ch;have R8:=Zh vV;have nX:=Zh fP;have HXF:Hid (hx=decide (at8 b 0/16%2=1)∧pf=if at8 b 0/16%2=1 then get b (pos:Int) 2 else 0):=⟨hhx,hpf⟩;have HX6:Hid (X=if at8 b 0/32%2=1∧(WJ b=b.length∨at8 b (b.length-1)=0∨b.length-WJ b<at8 b (b.length-1))then(WT,1)else if at8 b 0/32%2=1∧¬(((b.drop (b.length-at8 b (b.length-1))).take (at8 b (b.length-1)-1)).all (fun x=>decide (x=0))=true)then(WT,1)else(Ti b (TR b,WJ b,b.length-SN b),0)):=by show _=_;rw[iY.o,Z3 hnx,Z3 Zo]
    obtain⟨la,cj⟩:∃x:Nat,x=at8 b (b.length-1):=⟨_,rfl⟩;obtain⟨A,hA⟩:∃x:Nat,x=WJ b:=⟨_,rfl⟩;have hlaR:la<256:=by rw[cj];exact Xd b _
    obtain⟨d0,d1⟩:=aw.o WC HP.o.Za;have rQ:WC.cell? ⟨g,off+(b.length-1),none⟩=some (.int .u8 (la:Int)):=by rw[cj];exact HD.o WC HP.o.Za _ Zo
    obtain⟨y,hy⟩:∃y:Nat,y=x0/32:=⟨_,rfl⟩;have p1:IntKind.u8.wrap ((x0:Int)/32)=(y:Int):=by rw[IntKind.wrap_u8];omega
    have HYY:Hid ((y%2=1)↔at8 b 0/32%2=1):=by show _↔_;rw[hy,HH.o.2.2.2.1]
    rw[←cj,←hA]at HX6;rw[←hA]at kN ⊢;clear Ch vV fP hhx hpf hnx hy iY;obtain⟨L1,hL1⟩:∃x:Nat,x=b.length-1:=⟨_,rfl⟩;obtain⟨D,hD⟩:∃x:Nat,x=b.length-A:=⟨_,rfl⟩;have EJ:Hid (L1=b.length-1∧D=b.length-A∧la=at8 b (b.length-1)∧A=WJ b):=⟨hL1,hD,cj,hA⟩;have WO:b.length≤512:=by omega
    have YV:1≤b.length:=by omega
    rw[←hL1]at rQ;have s1:IntKind.i64.wrap ((b.length:Int)-1)=(L1:Int):=by rw[SZ _ Zo];omega
    have s2:IntKind.i64.wrap (la:Int)=(la:Int):=SZ _ Zo;have s3:IntKind.i64.wrap ((b.length:Int)-(A:Int))=(D:Int):=by rw[SZ _ Zo];omega
    have i8:(L1:Int)<(b.length:Int):=by omega
    have i9:(0:Int)≤(L1:Int):=oK L1;have i7:L1<b.length:=by omega
    have hDL:D≤b.length:=by omega
    clear hL1 hD cj hA;go_upto_if 150 with fail
    go_cut [10] (fun qF wx=>qF = .int .i64 ((b.length-SN b:Nat):Int)∧A≤b.length-SN b∧(SN b≤255∧SN b≤b.length)∧X=(Ti b (TR b,A,b.length-SN b),0)∧PG w wx (Qc mk (ty:Int) (sq:Int) (tm:Int) (sr:Int) a i q hx (pf:Int) xa (Om b).length xc none 0 0 ((SN b:Nat):Int))∧Row wx 66 (.slice a i q) i (YF (xC b i))∧Row wx 5 (.slice xa (Om b).length xc) (Om b).length (Re (Om b)))
    case first=>
     by_cases j4:at8 b 0/32%2=1
     rotate_left
     ·have d9:((y:Int).tmod 2==1)=false:=by rw[Wz,Int.tmod_eq_emod_of_nonneg Zo];intro h;exact j4 (HYY.o.1 Zo)
      have d9c:((y:Int)%2==1)=false:=by rw[Wz];intro h;exact j4 (HYY.o.1 Zo)
      have d9d:((x0:Int)/32%2==1)=false:=by rw[Wz];intro h;have:=HH.o.2.2.2.1;exact j4 Zo
      have hp0:SN b=0:=Z3 j4;go_wp2_with fail
      go_meet;rw[hp0,Nat.sub_zero];exact⟨rfl,kN,⟨by decide,Tv _⟩,by rw[HX6.o,Z3 (fun h=>j4 h.1),Z3 (fun h=>j4 h.1),hp0,Nat.sub_zero],HP.o,R8.o,nX.o⟩
     have d9:((y:Int).tmod 2==1)=true:=by rw[beq_iff_eq,Int.tmod_eq_emod_of_nonneg Zo];have:=HYY.o.2 j4;omega
     have d9c:((y:Int)%2==1)=true:=by rw[beq_iff_eq];have:=HYY.o.2 j4;omega
     have d9d:((x0:Int)/32%2==1)=true:=by rw[beq_iff_eq];have:=HH.o.2.2.2.1;omega
     have Sy:SN b=la:=by unfold SN;rw[ZU j4,EJ.o.2.2.1]
     by_cases Ni:A=b.length∨la=0∨b.length-A<la
     ·rcases (show A=b.length∨(¬A=b.length∧la=0)∨(¬A=b.length∧¬la=0∧D<la) by have:=EJ.o.2.1;omega)with hq1|⟨hq1,pL⟩|⟨hq1,pL,hq3⟩
      case' inl=>have e1:((A:Int)==(b.length:Int))=true:=by rw[beq_iff_eq];omega
      case' inr.inl=>have e1:((A:Int)==(b.length:Int))=false:=by rw[Wz];omega
      case' inr.inl=>have e2:((la:Int)==0)=true:=by rw[beq_iff_eq];omega
      case' inr.inr=>have e1:((A:Int)==(b.length:Int))=false:=by rw[Wz];omega
      case' inr.inr=>have e2:((la:Int)==0)=false:=by rw[Wz];omega
      case' inr.inr=>have e3:decide ((D:Int)<(la:Int))=true:=WV Zo
      case' inr.inr=>have e3n:decide (D<la)=true:=WV hq3
      all_goals
       have Vc:Hid (X=(WT,1)):=by show _=_;rw[HX6.o,ZU ⟨j4,Ni⟩]
       have TS:=HP.o.z;have Uu:=HP.o.Y8;go_wp2_with (first|with_reducible refine Zl TS underlying79 ?_|with_reducible refine Zs Uu ?_)
       refine Vr (v:= .tuple (Q0 (Qc false 0 0 0 0 none 0 0 false 0 none 0 0 none 0 0 0) 0 0 1)) ?_ rfl ?_
       ·exact Uy (p:=2) (u:=3) (v:=4) (x:=5) Zr _ _ w 79 (Qc false 0 0 0 0 none 0 0 false 0 none 0 0 none 0 0 0) (0,0) _ Zr (setRow_heap _ _ _ _ _ _ Uu) underlying79 rfl Zk
       first|exact Ur.o _ 1 HP.o.Za Vc.o|(obtain⟨⟨a,f,t,k1,k2⟩,k3⟩:=Ur.o _ 1 HP.o.Za Vc.o;exact⟨⟨a,⟨f,t,k1⟩,k2⟩,k3⟩)
     have HX7:Hid (X=if¬(((b.drop (b.length-la)).take (la-1)).all (fun x=>decide (x=0))=true)then(WT,1)else(Ti b (TR b,A,b.length-SN b),0)):=by
      show _=_;rw[HX6.o,Z3 (fun h=>Ni h.2)];simp only[j4,true_and]
     have e1:((A:Int)==(b.length:Int))=false:=by rw[Wz];omega
     have e2:((la:Int)==0)=false:=by rw[Wz];omega
     have e3:decide ((D:Int)<(la:Int))=false:=WH (by have:=EJ.o.2.1;omega);have e3n:decide (D<la)=false:=WH (by have:=EJ.o.2.1;omega);have hla1:1≤la:=by omega
     obtain⟨E,hE⟩:∃x:Nat,x=b.length-la:=⟨_,rfl⟩;have s4:IntKind.i64.wrap ((b.length:Int)-(la:Int))=(E:Int):=by rw[SZ _ Zo];omega
     have hAE:A≤E:=by have:=EJ.o.2.1;omega
     have bK:E≤L1:=by have:=EJ.o.1;omega
     obtain⟨zv,Uf,G'⟩:=VZ (P:=prog) Vt (some ⟨g,off,none⟩) b.length c E L1 bK Zo Rt;have hs9:∀w,(Instr.slice 30 (.slice (some ⟨g,off,none⟩) b.length c) (some (.int .i64 (E:Int))) (some (.int .i64 (L1:Int))) none).run prog w = .ok (.slice zv (L1-E) (c-E)) w:=Uf;obtain⟨m,hm⟩:∃m:Nat,m=L1-E:=⟨_,rfl⟩;obtain⟨c',Kf⟩:∃m:Nat,m=c-E:=⟨_,rfl⟩;have AV:((b.drop E).take (L1-E)).length=m:=by rw[SC,QG,hm];omega
     have iy:Hid (∀w',Below w w w'→XU w' (.slice zv m c') ((b.drop E).take (L1-E))):=fun w' h=>by
      have h2:XU w' _ _:=NS Zo bK G' (HV.o w' h);rw[←hm,←Kf]at h2;rw[←hm]at AV ⊢;exact h2
     have nM:Hid (X=if¬(((b.drop E).take (L1-E)).all (fun x=>decide (x=0))=true)then(WT,1)else(Ti b (TR b,A,b.length-SN b),0)):=by
      show _=_;rw[HX7.o,hE,show L1-(b.length-la)=la-1 by have:=EJ.o.1;omega]
     rw[←hm,←Kf]at hs9;have ck:m≤512:=by omega
     generalize(b.drop E).take (L1-E)=zb at *;have rf:=Zh AV;have DG:Hid (E=b.length-SN b∧SN b=la):=⟨by rw[hE,Sy],Sy⟩;clear Uf G' hm Kf AV HX7 Ni hE Sy;have zc:=cell_of HP.o.Y8 10;simp only[Ss,R_,Rw]at zc;have fc:=ZP HP.o.Y8 10;go_upto_region 38 with fail
     have R8:=Zh (QA R8.o HP.o.Y8 Zd 10 (.int .i64 (la:Int)));have nX:=Zh (QA nX.o HP.o.Y8 Zd 10 (.int .i64 (la:Int)));have HP:Hid (PG w (WC.setCell ⟨w,10,none⟩ (.int .i64 (la:Int))) (Qc mk (ty:Int) (sq:Int) (tm:Int) (sr:Int) a i q hx (pf:Int) xa (Om b).length xc none 0 0 (la:Int))):=HP.o.set 10 (.int .i64 (la:Int));clear zc fc;generalize WC.setCell ⟨w,10,none⟩ (.int .i64 (la:Int))=w8 at *;have zc:=cell_of HP.o.Y8 10;simp only[Ss,R_,Rw]at zc;go_wp2_with fail
     clear zc;go_loopw [193] (fun s193 w'=>∃j:Nat,j≤m∧s193 = .int .i64 (j:Int)∧w'=w8∧(zb.take j).all (fun x=>decide (x=0))=true) (fun s193 _=>m-(intOf s193).toNat)
     case atStart=>exact⟨0,Zo,rfl,rfl,by rw[List.take_zero];rfl⟩
     case round=>
      obtain⟨j,hj,rfl,hwr,Ut⟩:=hrel;subst hwr;by_cases xY:j<m
      rotate_left
      ·have K6:zb.take j=zb:=Ex (by rw[rf.o];omega);rw[K6]at Ut;have HFA:Hid (X=(Ti b (TR b,A,b.length-SN b),0)):=by show _=_;rw[nM.o,Z3 (fun h=>h Ut)]
       have hjm2:j=m:=by omega
       subst hjm2;clear Ut K6;go_wp2_with fail
       go_meet;exact⟨by rw[DG.o.1],by rw[←DG.o.1];exact hAE,⟨by rw[DG.o.2];omega,by rw[DG.o.2];have:=of_decide_eq_false e3n;omega⟩,HFA.o,by rw[DG.o.2];exact HP.o,R8.o,nX.o⟩
      obtain⟨g3,off3,cap3,e4,_,_,pA⟩:=Rk (iy.o wr HP.o.Za) (by rw[rf.o];omega);rw[rf.o]at e4;cases e4;have lF:=pA j (by rw[rf.o];exact xY);have Cj:(j:Int)<(m:Int):=PM.2 xY;have hzj:zb[j]?=some (zb[j]'(by rw[rf.o];exact xY)):=U' _;have hzt:=QD hzj;have V5:at8 zb j=(zb[j]'(by rw[rf.o];exact xY)).toNat:=by unfold at8;rw[QQ,hzj];rfl
      generalize zb[j]'(by rw[rf.o];exact xY)=zj at *;obtain⟨u,hu⟩:∃u:Nat,u=at8 zb j:=⟨_,rfl⟩;rw[←hu]at lF V5;have HZJ:Hid (u=zj.toNat∧zb.take (j+1)=zb.take j++[zj]∧(zb.take j).all (fun x=>decide (x=0))=true):=⟨V5,hzt,Ut⟩;clear pA hzj hzt V5 hu Ut;by_cases hu0:u=0
      rotate_left
      ·have e5:((u:Int)!=0)=true:=by rw[Rs];omega
       have Vc:Hid (X=(WT,1)):=by show _=_;rw[nM.o,ZU (fun h=>by have h2:=List.all_eq_true.1 h zj (by have e:zj∈zb.take (j+1):=(by rw[HZJ.o.2.1];simp);exact List.mem_of_mem_take e);exact hu0 (by rw[HZJ.o.1];have h3:=of_decide_eq_true h2;rw[h3];rfl))]
       have TS:=HP.o.z;have Uu:=HP.o.Y8;go_wp2_with (first|with_reducible refine Zl TS underlying79 ?_|with_reducible refine Zs Uu ?_)
       refine Vr (v:= .tuple (Q0 (Qc false 0 0 0 0 none 0 0 false 0 none 0 0 none 0 0 0) 0 0 1)) ?_ rfl ?_
       ·exact Yt22
       first|exact Ur.o _ 1 HP.o.Za Vc.o|(obtain⟨⟨a,f,t,k1,k2⟩,k3⟩:=Ur.o _ 1 HP.o.Za Vc.o;exact⟨⟨a,⟨f,t,k1⟩,k2⟩,k3⟩)
      have e5:((u:Int)!=0)=false:=by rw[bne_eq_false_iff_eq];omega
      have HU0:Hid (zj=0):=UInt8.toNat_inj.1 (by rw[←HZJ.o.1,hu0];rfl);clear hu0;go_wp2_with fail
      go_roundw
      case rel=>exact⟨j+1,Zo,Zn,by first|rfl|trivial,by rw[HZJ.o.2.1,List.all_append,HZJ.o.2.2,HU0.o];rfl⟩
      case measure=>simp[intOf];omega
    case rest=>
     obtain⟨hs10,hAE,⟨hp255,hplb⟩,hXF,Ch,vV,fP⟩:=hcut;obtain⟨WD,rfl⟩:∃W:World,W=wc:=⟨_,rfl⟩;subst hs10;obtain⟨E,hE⟩:∃x:Nat,x=b.length-SN b:=⟨_,rfl⟩;rw[←hE]at hAE hXF ⊢;have bK:E≤b.length:=by omega
     have DG:Hid ((b.length:Int)-(E:Int)=((SN b:Nat):Int)):=by show _=_;omega
     have HP:=Zh Ch;have R8:=Zh vV;have nX:=Zh fP;have HXF2:=Zh hXF;obtain⟨zv,Uf,G'⟩:=VZ (P:=prog) Vt (some ⟨g,off,none⟩) b.length c A E hAE bK Rt;have hs9:∀w,(Instr.slice 30 (.slice (some ⟨g,off,none⟩) b.length c) (some (.int .i64 (A:Int))) (some (.int .i64 (E:Int))) none).run prog w = .ok (.slice zv (E-A) (c-A)) w:=Uf;obtain⟨m,hm⟩:∃m:Nat,m=E-A:=⟨_,rfl⟩;obtain⟨c',Kf⟩:∃m:Nat,m=c-A:=⟨_,rfl⟩;have AV:((b.drop A).take (E-A)).length=m:=by rw[SC,QG,hm];omega
     have iy:Hid (XG WD (.slice zv m c') m (Re ((b.drop A).take (E-A)))):=by
      have h2:XU WD _ _:=NS bK hAE G' (HV.o WD HP.o.Za);rw[←hm,←Kf]at h2;have h3:XG WD _ _ _:=h2;rw[←hm]at AV ⊢;rw[AV]at h3;exact h3
     have ck:m≤512:=by omega
     have EM:Hid (Ti b (TR b,A,E)=⟨mk,(ty:Int),(sq:Int),(tm:Int),(sr:Int),xC b i,hx,(pf:Int),Om b,(b.drop A).take (E-A),((SN b:Nat):Int)⟩):=by
      obtain⟨g1,g2,g3,g4,g5⟩:=HH.o;obtain⟨g6,g7,g8⟩:=HM.o;obtain⟨g9,g10⟩:=HXF.o
      have f7:(if at8 b 0/16%2=1 then(get b ((TR b:Int)-4) 2:Int)else 0)=(pf:Int):=by
       rw[g10];by_cases h:at8 b 0/16%2=1
       ·rw[ZU h,ZU h,HKX.o,ZU h,show((pos+4:Nat):Int)-4=(pos:Int) by omega]
       ·rw[Z3 h,Z3 h];rfl
      have f8:(if at8 b 0/16%2=1 then(b.drop (TR b)).take (A-TR b)else[])=Om b:=by unfold Om;rw[EJ.o.2.2.2]
      show Ti b (TR b,A,E)=_;have e:Ti b (TR b,A,E)=⟨decide (128≤at8 b 1),((at8 b 1%128:Nat):Int),(get b 2 2:Nat),(get b 4 4:Nat),(get b 8 4:Nat),xC b (at8 b 0%16),decide (at8 b 0/16%2=1),if at8 b 0/16%2=1 then(get b ((TR b:Int)-4) 2:Int)else 0,if at8 b 0/16%2=1 then(b.drop (TR b)).take (A-TR b)else[],(b.drop A).take (E-A),(b.length:Int)-(E:Int)⟩:=rfl;rw[e,f7,f8,DG.o,←g1,←g2,←g3,←g9,←g4,←g5,←g6,←g7,←g8]
     rw[←hm]at EM;rw[←hm]at iy;rw[←hm]at AV;generalize(b.drop A).take m=xb at *;rw[←hm,←Kf]at hs9;have rf:=Zh AV;clear Uf G' hm Kf AV hE Ch vV fP hXF hAE;go_wp2_with (first|(at_builtin;refine Py rfl (.const (.slice none 0 0)) (.tmp 204) 30 rfl w Vt (.slice none 0 0) 0 [] rfl (TH _ _ _ _) (.slice zv m c') m (Re xb) rfl iy.o (by rw[Xa,rf.o,Nat.mul_one]) (Ap _) Zo Zo HP.o.Za.size (fun v9 w9 wJ nP=>?_);obtain⟨ea,ec,hev9⟩:=Row.form (Row.Z4 wJ.o);subst hev9;have sJ:=Zh (Hw nP.o);have vO:=Zh (HP.o.below sJ.o);have HRW9:=Zh (Row.below R8.o sJ.o);have HRE9:=Zh (Row.below nX.o sJ.o);have zc:=cell_of vO.o.Y8 9;simp only[Ss,R_,Rw]at zc;have fc:=ZP vO.o.Y8 9;have Uu:(w9.setCell ⟨w,9,none⟩ (.slice ea m ec)).heap[w.heap.size]?=some (.cells (Qc mk (ty:Int) (sq:Int) (tm:Int) (sr:Int) a i q hx (pf:Int) xa (Om b).length xc ea m ec ((SN b:Nat):Int)) 79 (0,0)):=(vO.o.set 9 (.slice ea m ec)).Y8)|with_reducible refine Zl Uu underlying79 ?_|with_reducible refine Zs Uu ?_)
     refine Vr (v:= .tuple (Q0 (Qc mk (ty:Int) (sq:Int) (tm:Int) (sr:Int) a i q hx (pf:Int) xa (Om b).length xc ea m ec ((SN b:Nat):Int)) (A:Int) (E:Int) 0)) ?_ rfl ?_
     ·exact Uy (p:=2) (u:=3) (v:=4) (x:=5) Zr _ _ w 79 (Qc mk (ty:Int) (sq:Int) (tm:Int) (sr:Int) a i q hx (pf:Int) xa (Om b).length xc ea m ec ((SN b:Nat):Int)) (0,0) _ Zr (setRow_heap _ _ _ _ _ _ Uu) underlying79 rfl Zk
     have hfin:Np ((w9.setCell ⟨w,9,none⟩ (.slice ea m ec)).setRow w (Qc mk (ty:Int) (sq:Int) (tm:Int) (sr:Int) a i q hx (pf:Int) xa (Om b).length xc ea m ec ((SN b:Nat):Int))) (.agg (Qc mk (ty:Int) (sq:Int) (tm:Int) (sr:Int) a i q hx (pf:Int) xa (Om b).length xc ea m ec ((SN b:Nat):Int))) X.1∧X.2=0∧Below w w ((w9.setCell ⟨w,9,none⟩ (.slice ea m ec)).setRow w (Qc mk (ty:Int) (sq:Int) (tm:Int) (sr:Int) a i q hx (pf:Int) xa (Om b).length xc ea m ec ((SN b:Nat):Int))):=by
      rw[HXF2.o,EM.o];have h:=Row.Z4 wJ.o;rw[PA,IC,←rf.o]at h;have Ls:(xC b i).length=i:=by unfold xC;rw[Te,List.length_range]
      have hc9:Row w9 66 (.slice a (xC b i).length q) (xC b i).length (YF (xC b i)):=by rw[Ls];exact HRW9.o
      have sr:∀ {e:TypeId} {v:Value} {n:Nat} {xs:List Value},79≠e→Row w9 e v n xs→Row ((w9.setCell ⟨w,9,none⟩ (.slice ea m ec)).setRow w (Qc mk (ty:Int) (sq:Int) (tm:Int) (sr:Int) a i q hx (pf:Int) xa (Om b).length xc ea m ec ((SN b:Nat):Int))) e v n xs:=fun he hr=>Row.setRow (QA hr vO.o.Y8 he 9 _) Uu (fun e=>he e.symm) _
      refine⟨⟨_,_,_,?_,sr Zd hc9,sr Zd HRE9.o,sr Zd h⟩,rfl,Z0 (vO.o.set 9 (.slice ea m ec)).Za (Zq _) _⟩;unfold FY;rw[Ls,rf.o]
     obtain⟨k1,k2,k3⟩:=hfin;rw[k2]
     first|exact⟨⟨_,_,_,rfl,k1⟩,k3⟩|exact⟨⟨_,⟨_,_,rfl⟩,k1⟩,k3⟩):p:=h
def ml(v:Value)(b:List UInt8)(w:World)(hv:XU w v b)(pF:at8 b 1<192) :
  Calls prog 94 #[v] w fun e w'=>(∃a f t,e = .returned (.tuple #[a,.int .i64 f,.int .i64 t,.int .i64 (YH b).2])∧Np w' a (YH b).1)∧Below w w w':=yM
def mj(v:Value)(b:List UInt8)(w:World)(hv:XU w v b)(pF:192≤at8 b 1) :
  Calls prog 94 #[v] w fun e w'=>(∃a f t,e = .returned (.tuple #[a,.int .i64 f,.int .i64 t,.int .i64 (YH b).2])∧Np w' a (YH b).1)∧Below w w w':=yM
def qp(v:Value)(b:List UInt8)(w:World)(hv:XU w v b) :
  Calls prog 94 #[v] w fun e w'=>(∃a f t,e = .returned (.tuple #[a,.int .i64 f,.int .i64 t,.int .i64 (YH b).2])∧Np w' a (YH b).1)∧Below w w w':=by
 by_cases h:at8 b 1<192
 ·exact ml v b w hv h
 ·exact mj v b w hv Zo
def MQ{P:Program}{fn:Func}{p q u:Tmp}{ty tz:TypeId}(h:fn.results=#[.cell p ty,.cell q tz,.tmp u])(tmps:Array Value)(w:World)(g k:Nat)(t s:TypeId)(cs ds:Array Value)(fr fs:Nat×Nat)(d e:TypeDesc)
  (hp:tmps.getD p undef = .pointer (some ⟨g,0,none⟩)) (hq:tmps.getD q undef = .pointer (some ⟨k,0,none⟩)) (hg:w.heap[g]?=some (.cells cs t fr)) (hk:w.heap[k]?=some (.cells ds s fs))
  (hu:P.underlying ty=some d) (hv:P.underlying tz=some e) (hd:(match d with | .struct _ | .array _ _=>true|_=>false)=true) (he:(match e with | .struct _ | .array _ _=>true|_=>false)=true) (hi:(P.info? ty).map (·.size)=some cs.size) (hj:(P.info? tz).map (·.size)=some ds.size) :
  (results fn tmps).run P w = .ok (.tuple #[.agg cs,.agg ds,tmps.getD u undef]) w:=by
 have pJ:tmps[p]?.getD undef = .pointer (some ⟨g,0,none⟩):=by simpa using hp
 have fN:tmps[q]?.getD undef = .pointer (some ⟨k,0,none⟩):=by simpa using hq
 simp[results,h,pJ,fN,asAddr,run_loadVar_row w g t ty cs fr d hg hu hd hi,run_loadVar_row w k s tz ds fs e hk hv he hj]
def VG{P:Program}{w:World}{op:Oper}{a:Act}(ty:TypeId)(x:Operand)(ho:op.op = .load ty x)(g:Nat)(hx:a.eval x = .pointer (some ⟨g,0,none⟩))(t:TypeId)(cs:Array Value)(fr:Nat×Nat)(d:TypeDesc)(hg:w.heap[g]?=some (.cells cs t fr))
  (hu:P.underlying ty=some d) (hd:(match d with | .struct _ | .array _ _=>true|_=>false)=true) (hi:(P.info? ty).map (·.size)=some cs.size):(execOp a.eval op).run P w = .ok (.value (.agg cs)) w:=by
 unfold execOp;simp only[ho,hx,Instr.loadAt,Instr.sureAddr,Sem.run_bind,Sem.run_pure,Result.andThen_ok,run_loadVar_row w g t ty cs fr d hg hu hd hi]
def Vp.setRow{w:World}{p:JR}{cv ev pv:Value}(h:Vp w p cv ev pv){g:Nat}{c:Array Value}{t:TypeId}{f:Nat×Nat}(hg:w.heap[g]?=some (.cells c t f))(h1:66≠t)(h2:5≠t)(cs:Array Value):Vp (w.setRow g cs) p cv ev pv:=
 ⟨Row.setRow h.c hg h1 _,Row.setRow h.e hg h2 _,Row.setRow h.p hg h2 _⟩
def Th(b:List UInt8):(JR×Eu)×Int:=if(YH b).2≠0 then((WT,S_),(YH b).2)else if(Yu (YH b).1.Zz).2≠0 then((WT,S_),(Yu (YH b).1.Zz).2)else(((YH b).1,(Yu (YH b).1.Zz).1),0)
def uI(v:Value)(b:List UInt8)(w:World)(hv:XU w v b) :
  Calls prog 71 #[v] w fun e w'=>(∃a,e = .returned (.tuple #[a,jT (Th b).1.2,.int .i64 (Th b).2])∧Np w' a (Th b).1.1)∧Below w w w':=by
 have HC:=Zh (fun(w':World) (h:Below w w w')=>qp v b w' (hv.below h));have HX:Hid (Th b=if(YH b).2≠0 then((WT,S_),(YH b).2)else if(Yu (YH b).1.Zz).2≠0 then((WT,S_),(Yu (YH b).1.Zz).2)else(((YH b).1,(Yu (YH b).1.Zz).1),0)):=rfl;obtain⟨va,c,rfl,-⟩:=id hv;clear hv;have U_:Hid (Below w w ((w.alloc (.cells (Qc false 0 0 0 0 none 0 0 false 0 none 0 0 none 0 0 0) 79)).alloc (.cells (Qd 0 false false 0) 81))):=ZA (Z' w _) (Zq _) _;have e1:(w.alloc (.cells (Qc false 0 0 0 0 none 0 0 false 0 none 0 0 none 0 0 0) 79)).heap.size=w.heap.size+1:=by show(w.heap.push _).size=_;rw[N9]
 have e2:((w.alloc (.cells (Qc false 0 0 0 0 none 0 0 false 0 none 0 0 none 0 0 0) 79)).alloc (.cells (Qd 0 false false 0) 81)).heap.size=w.heap.size+2:=by show((w.alloc (.cells (Qc false 0 0 0 0 none 0 0 false 0 none 0 0 none 0 0 0) 79)).heap.push _).size=_;rw[N9,e1]
 have z1:((w.alloc (.cells (Qc false 0 0 0 0 none 0 0 false 0 none 0 0 none 0 0 0) 79)).alloc (.cells (Qd 0 false false 0) 81)).heap[w.heap.size+1]?=some (.cells (Qd 0 false false 0) 81 (0,0)):=by
  have h:=Z9 (w.alloc (.cells (Qc false 0 0 0 0 none 0 0 false 0 none 0 0 none 0 0 0) 79)) (.cells (Qd 0 false false 0) 81);rw[e1]at h;exact h
 have z0:((w.alloc (.cells (Qc false 0 0 0 0 none 0 0 false 0 none 0 0 none 0 0 0) 79)).alloc (.cells (Qd 0 false false 0) 81)).heap[w.heap.size]?=some (.cells (Qc false 0 0 0 0 none 0 0 false 0 none 0 0 none 0 0 0) 79 (0,0)):=by
  rw[(Z' (w.alloc (.cells (Qc false 0 0 0 0 none 0 0 false 0 none 0 0 none 0 0 0) 79)) _).block _ (by rw[e1];omega)];exact Z9 w _
 have HZ:Hid (((w.alloc (.cells (Qc false 0 0 0 0 none 0 0 false 0 none 0 0 none 0 0 0) 79)).alloc (.cells (Qd 0 false false 0) 81)).heap[w.heap.size+1]?=some (.cells (Qd 0 false false 0) 81 (0,0))∧((w.alloc (.cells (Qc false 0 0 0 0 none 0 0 false 0 none 0 0 none 0 0 0) 79)).alloc (.cells (Qd 0 false false 0) 81)).heap[w.heap.size]?=some (.cells (Qc false 0 0 0 0 none 0 0 false 0 none 0 0 none 0 0 0) 79 (0,0))∧((w.alloc (.cells (Qc false 0 0 0 0 none 0 0 false 0 none 0 0 none 0 0 0) 79)).alloc (.cells (Qd 0 false false 0) 81)).heap.size=w.heap.size+2):=⟨z1,z0,e2⟩;clear z0 z1 e1 e2;generalize Th b=X at *;generalize YH b=Y at *;obtain⟨P,er⟩:=Y;dsimp only at HC HX;go_enter func71,ntmps71;go_upto_region 2 with(go_at_call 94;refine(HC.o _ U_.o).mono ?_;rintro e w2 ⟨⟨a0,f0,t0,rfl,⟨cv,ev,pv,bR,q1,q2,q3⟩⟩,Y7⟩;obtain⟨ca,cc,G9,-⟩:=id q1;obtain⟨ea,ec,LQ,-⟩:=id q2;obtain⟨pa,pc,Mk,-⟩:=id q3;subst G9;subst LQ;subst Mk;dsimp only[FY]at bR;subst bR;have HR:Hid (Vp w2 P (.slice ca P.Vs.length cc) (.slice ea P.ext.length ec) (.slice pa P.Zz.length pc)):=⟨q1,q2,q3⟩;have Yc:=Zh Y7;clear q1 q2 q3 Y7)
 clear HC;have GW:Hid (Below w w w2):=Tr U_ Yc.o;have pM:w.heap.size+2≤w2.heap.size:=by have:=Yc.o.size;rw[HZ.o.2.2]at this;exact this
 have HY:Hid (∀w',Below w2 w2 w'→w'.heap[w.heap.size+1]?=some (.cells (Qd 0 false false 0) 81 (0,0))∧w'.heap[w.heap.size]?=some (.cells (Qc false 0 0 0 0 none 0 0 false 0 none 0 0 none 0 0 0) 79 (0,0))):=fun w' h=>by
  have k:=HZ.o.2.2;exact⟨(h.block _ Zo).trans ((Yc.o.block _ Zo).trans HZ.o.1),(h.block _ Zo).trans ((Yc.o.block _ Zo).trans HZ.o.2.1)⟩
 have GV:Hid (Below w w (w2.alloc (.cells (Jy P ca cc ea ec pa pc) 79))):=ZA GW.o (Zq _) _;by_cases Rl:er=0
 rotate_left
 ·have bl:(er !=0)=true:=by rw[Rs];exact Rl
  rw[ZU Rl]at HX;obtain⟨y1,y0⟩:=HY.o _ (Z' w2 (.cells (Jy P ca cc ea ec pa pc) 79));clear HZ;go_wp2_with (first|with_reducible refine Zs y0 ?_|(with_reducible refine Zs ((setRow_other _ _ _ _ Zo).trans y1) ?_))
  refine Vr (v:= .tuple (Jq (Qc false 0 0 0 0 none 0 0 false 0 none 0 0 none 0 0 0) (Qd 0 false false 0) er)) ?_ rfl ?_
  ·exact Yt6
  exact⟨⟨_,by rw[HX.o];rfl,by rw[HX.o];exact FZ _⟩,Z0 (Z0 GV.o (Zq _) _) (JV _) _⟩
 subst Rl;have HD:Hid (∀w1,Below w2 w2 w1→Calls prog 95 #[.slice pa P.Zz.length pc] w1 fun e w'=>e = .returned (.tuple (Qo (Qd (Yu P.Zz).1.ZC (Yu P.Zz).1.key (Yu P.Zz).1.start (Yu P.Zz).1.frame) (Yu P.Zz).2))∧Below w1 w1 w'):=fun w1 h=>Bc _ P.Zz w1 (HR.o.p.below h).r
 rw[Z3 Zi]at HX;generalize Yu P.Zz=D at *;obtain⟨d,de⟩:=D;dsimp only at HD HX;have GG:w2.heap.size<(w2.alloc (.cells (Jy P ca cc ea ec pa pc) 79)).heap.size:=by show _<(w2.heap.push _).size;rw[N9];exact Nat.lt_succ_self _
 have ZW:=Z9 w2 (.cells (Jy P ca cc ea ec pa pc) 79);go_upto_region 5 with(go_at_call 95;refine(HD.o _ (Z' _ _)).mono ?_;rintro e w3 ⟨rfl,WM⟩;have WB:=Zh WM;have yp:=(WM.block _ GG).trans ZW;have vW:w2.heap.size<w3.heap.size:=Od GG WM.size;clear WM)
 have cQ:Hid (Below w2 w2 w3):=(Z' w2 _).trans (WB.o.mono (jD GG));have BA:Hid (Below w w (w3.alloc (.cells (Ju d) 81))):=ZA (Tr GW cQ.o) (Zq _) _;have M8:=Zh ((HR.o.below cQ.o).below (Z' w3 (.cells (Ju d) 81)));have y5:=((Z' w3 (.cells (Ju d) 81)).block _ vW).trans yp;obtain⟨y1,y0⟩:=HY.o _ (cQ.o.trans ((Z' w3 (.cells (Ju d) 81)).mono cQ.o.size));clear ZW WB HD yp;by_cases bW:de=0
 rotate_left
 ·have bl:(de !=0)=true:=by rw[Rs];exact bW
  rw[ZU bW]at HX;go_wp2_with (first|with_reducible refine Zs y0 ?_|(with_reducible refine Zs ((setRow_other _ _ _ _ Zo).trans y1) ?_))
  refine Vr (v:= .tuple (Jq (Qc false 0 0 0 0 none 0 0 false 0 none 0 0 none 0 0 0) (Qd 0 false false 0) de)) ?_ rfl ?_
  ·exact Yt6
  exact⟨⟨_,by rw[HX.o];rfl,by rw[HX.o];exact FZ _⟩,Z0 (Z0 BA.o (Zq _) _) (JV _) _⟩
 subst bW;rw[Z3 Zi]at HX;have y6:=Z9 w3 (.cells (Ju d) 81);have ax:=Zh ((YE (w3.alloc (.cells (Ju d) 81)).heap.size (w3.alloc (.cells (Ju d) 81))).drew);have HBV9:=Zh (Tr BA ax.o);have HRV9:=Zh (M8.o.below ax.o);go_wp2_with fail
 replace y0:=(ax.o.block _ (ZY y0)).trans y0;replace y1:=(ax.o.block _ (ZY y1)).trans y1;replace y5:=(ax.o.block _ (ZY y5)).trans y5;replace y6:=(ax.o.block _ (ZY y6)).trans y6;refine RX ?_;refine Zj (d:=3) (S:=(fun w'=>w'.heap[w2.heap.size]?=some (.cells (Jy P ca cc ea ec pa pc) 79 (0,0))∧w'.heap[w3.heap.size]?=some (.cells (Ju d) 81 (0,0)))) Zk ?_ (fun XY=>?_)
 ·exact⟨y5,y6⟩
 refine YK 0 (hy:=by intro wS Ud;refine VG 79 (.tmp 5) ?_ w2 ?_ 79 (Jy P ca cc ea ec pa pc) (0,0) _ Ud.1 underlying79 rfl Zk;all_goals rfl) (h:=?_);refine YK 1 (hy:=by intro wS Ud;refine VG 81 (.tmp 9) ?_ w3 ?_ 81 (Ju d) (0,0) _ Ud.2 underlying81 rfl Zk;all_goals rfl) (h:=?_);refine YR 2 (h:=fun K hK=>?_);rw[ZU Zr];refine wp_store_row 79 (.tmp 2) (.tmp 33) rfl w (Jy P ca cc ea ec pa pc) rfl rfl 79 _ y0 Zk Zk Zk ?_;refine YY hK _ _ ?_ (fun XC=>?_)
 ·exact⟨(setRow_other _ _ _ _ Zo).trans y5,(setRow_other _ _ _ _ Zo).trans y6⟩
 clear hK K;try simp only[pt]
 refine YR 3 (h:=fun K hK=>?_);rw[ZU Zr];refine wp_store_row 81 (.tmp 3) (.tmp 34) rfl (w.heap.size+1) (Ju d) rfl rfl 81 _ ((setRow_other _ _ _ _ Zo).trans y1) Zk Zk Zk ?_;refine Ye hK _ _ Zk ?_;clear hK K;try simp only[pt]
 refine YP 4 (h:=?_);refine Yt Zk ?_ _;refine QP ?_;go_wp2_with fail
 refine Vr (v:= .tuple (Jq (Jy P ca cc ea ec pa pc) (Ju d) 0)) ?_ rfl ?_
 ·exact MQ (p:=2) (q:=3) (u:=4) Zr _ _ w (w.heap.size+1) 79 81 (Jy P ca cc ea ec pa pc) (Ju d) (0,0) (0,0) _ _ Zr Zr ((setRow_other _ _ _ _ Zo).trans (setRow_heap _ _ _ _ _ _ y0)) (setRow_heap _ _ _ _ _ _ ((setRow_other _ _ _ _ Zo).trans y1)) underlying79 underlying81 rfl rfl Zk Zk
 have HRZ:=Vp.setRow (Vp.setRow HRV9.o y0 Zd Zd (Jy P ca cc ea ec pa pc)) ((setRow_other _ _ _ _ Zo).trans y1) Zd Zd (Ju d);exact⟨⟨_,by rw[HX.o];rfl,by rw[HX.o];exact⟨_,_,_,rfl,HRZ.c,HRZ.e,HRZ.p⟩⟩,Z0 (Z0 HBV9.o (Zq _) _) (JV _) _⟩
def qA(v:Value)(n:Nat)(c:List UInt8)(w:World)(hv:XU w v c)(hn:n≤1000) :
  Calls prog 117 (Jb 203 (n:Int) v) w fun e w'=>(∃a,e = .returned a∧SH w' a (Xi 203 n c))∧Below w w w':=by
 have CR:=Zh (fun(p q:Int) (w':World) (h:Below w w w')=>QL v c p q w' (hv.below h))
 have HX:Hid (Xi 203 n c=⟨203,0,0,0,0,0,[],TK c n,0,[]⟩):=by
  show _=_;unfold Xi;simp
 generalize Xi 203 n c=X at *;have H1:Hid (GI w (((w.alloc (.cells X9 173)).alloc (.cells X9 173)).setRow (w.heap.size+1) Yz7a) Yz7):=GI.start w 203
 have hz:((w.alloc (.cells X9 173)).alloc (.cells X9 173)).heap[w.heap.size+1]?=some (.cells X9 173 (0,0)):=by
  exact oH
 clear hv;go_enter func117,ntmps117;go_upto_region 2 with(with_reducible refine Zs hz ?_)
 clear hz;generalize((w.alloc (.cells X9 173)).alloc (.cells X9 173)).setRow (w.heap.size+1) Yz7a=w1 at *;go_wp2_with fail
 go_loopw [8,9] (fun s8 s9 w'=>∃(i pos:Nat) (a:Option Addr) (q:Nat),i≤n∧pos=0+4*i∧s9 = .int .i64 (i:Int)∧s8 = .int .i64 (pos:Int)∧GI w w' (Qe 203 0 0 0 0 0 none 0 0 a i q 0 none 0 0)∧w'.ownsRow w 66 1 (.slice a i q) i (YF (TK c i))) (fun _ s9 _=>n-(intOf s9).toNat)
 case atStart=>exact⟨0,0,none,0,Zo,Zo,rfl,rfl,H1.o,TH _ _ _ _⟩
 case round=>
  obtain⟨i,pos,a,q,hi,PC,rfl,rfl,Ch,Yy⟩:=hrel;have HG:=Zh Ch;have HO:=Zh Yy;clear Ch Yy H1;by_cases GD:i<n
  ·obtain⟨x0,PE⟩:∃x:Nat,x=get c (pos:Int) 4:=⟨_,rfl⟩
   have Lc:Hid (TK c (i+1)=TK c i++[(x0:Int)]):=by
    show _=_;rw[PE,PC];unfold TK;rw[ny,Ng];simp
   have C0:=Zh (fun(w':World) (h:Below w w w')=>CR.o (pos:Int) 4 w' h);rw[←PE]at C0;have Nh:IntKind.u32.wrap (x0:Int)=(x0:Int):=by have:=WL c (pos:Int);rw[Nr];omega
   have cz:IntKind.i64.wrap ((pos:Int)+4)=(pos:Int)+4:=SZ _ Zo;have Cq:pos≤100000:=by omega
   have Nb:=Zh PC;clear PC PE;go_upto_region 22 with fail
   have HG:=Zh (HG.o.below (YE _ _).drew);have HO:=Zh (Yq HO.o (YE _ _).drew);have k0:(wr.drew).cell? ⟨w.heap.size+1,7,none⟩=some (.slice a i q):=Zc HG.o.Y8 7 rfl;refine RX ?_;refine Zj (d:=9) (S:=(fun w'=>w'.cell? ⟨w.heap.size+1,7,none⟩=some (.slice a i q))) X6 ?_ (fun _=>?_)
   ·exact k0
   refine YP 0 (h:=YP 2 (h:=YP 3 (h:=YK 1 (h:=?_))));refine YR 4 (h:=fun K hK=>?_);go_simp;refine(C0.o _ HG.o.Za).mono ?_;rintro e w' ⟨rfl,rfl⟩;go_wp2_with fail
   refine YY hK _ _ ?_ (fun _=>?_)
   ·first|exact k2|exact k1|exact k0
   clear hK K;try simp only[pt]
   refine YP 5 (h:=?_);refine YR 6 (h:=fun K hK=>?_);refine Yg Zr Ve (.tmp 100) Zr (.int .u32 (x0:Int)) Zr rfl ?_;have HG:=Zh (HG.o.below (Z' wr.drew (.cells #[.int .u32 (x0:Int)] 66)));have HO:=Zh (Yq HO.o (Z' wr.drew (.cells #[.int .u32 (x0:Int)] 66)));have k1:=cell_of HG.o.Y8 7;simp only[Ss,R_,Rw]at k1;refine YY hK _ _ ?_ (fun _=>?_)
   ·first|exact k2|exact k1|exact k0
   clear hK K;try simp only[pt]
   refine YR 7 (h:=fun K hK=>?_);refine Y9 Zr (.tmp 96) (.tmp 101) 29 Zr w Ve (.slice a i q) i (YF (TK c i)) Zr HO.o _ 1 (YF [(x0:Int)]) Zr (Vw wr.drew 66 1 (YF [(x0:Int)]) Zd) rfl (JD _) Zo Zo ?_ ?_
   ·exact HG.o.Za.size
   intro v' w6 Hf wG;obtain⟨na,nq,Na,-⟩:=Row.Z4 Hf.o;subst Na;have HG:=Zh (HG.o.grown HO.o Zd wG.o);have HO:Hid (w6.ownsRow w 66 1 (.slice na (i+1) nq) (i+1) (YF (TK c i++[(x0:Int)]))):=(by have h:=Hf.o;rw[show YF (TK c i)++YF [(x0:Int)]=YF (TK c i++[(x0:Int)])from(Ng ..).symm]at h;exact h);have k2:=cell_of HG.o.Y8 7;simp only[Ss,R_,Rw]at k2;have f2:=ZP HG.o.Y8 7;refine YY hK _ _ ?_ (fun _=>?_)
   ·first|exact k2|exact k1|exact k0
   clear hK K;try simp only[pt]
   refine YP 8 (h:=?_);refine YR 9 (h:=fun K hK=>?_);go_simp;refine Ye hK _ _ X6 ?_;clear hK K;try simp only[pt]
   refine Yt X6 ?_ _;refine QP ?_;go_wp2_with fail
   go_roundw
   case rel=>
    refine⟨i+1,pos+4,na,nq,Zo,by have:=Nb.o;omega,Zn,Zn,?_,?_⟩
    ·exact HG.o.set 7 (.slice na (i+1) nq)
    ·rw[Lc.o];exact I5 HO.o HG.o.Y8 Zd _ _
   case measure=>simp[intOf];omega
  ·have tY:i=n:=by omega
   subst tY;have R8:=Zh (Row.Z4 HO.o);have TS:=HG.o.z;have Uu:=HG.o.Y8;go_wp2_with (first|with_reducible refine Zl Uu underlying173 ?_|(with_reducible refine Zs (cells:=(Qe 203 0 0 0 0 0 none 0 0 a i q 0 none 0 0)) TS ?_))
   refine Vr (v:= .agg (Qe 203 0 0 0 0 0 none 0 0 a i q 0 none 0 0)) ?_ rfl ?_
   ·exact results_cell_row Zr _ _ w 173 (Qe 203 0 0 0 0 0 none 0 0 a i q 0 none 0 0) (0,0) _ Zr (setRow_heap _ _ _ _ _ _ TS) underlying173 rfl X6
   refine⟨⟨_,rfl,?_⟩,Z0 HG.o.Za (Zq _) _⟩;rw[HX.o];have hr:TW wr ⟨⟨203,0,0,0,0,0,[],TK c i,0,[]⟩,.slice none 0 0,.slice a i q,.slice none 0 0⟩:=⟨Row.nil _ _,by show Row wr _ _ (TK c i).length _;rw[show(TK c i).length=i by unfold TK;rw[Te,List.length_range]];exact R8.o,Row.nil _ _⟩;have OA:=TW.setRow hr TS (Qe 203 0 0 0 0 0 none 0 0 a i q 0 none 0 0);exact⟨_,_,_,rfl,OA.b,OA.g,OA.p⟩
def yT(v:Value)(n:Nat)(c:List UInt8)(w:World)(hv:XU w v c)(hn:n≤1000) :
  Calls prog 117 (Jb 205 (n:Int) v) w fun e w'=>(∃a,e = .returned a∧SH w' a (Xi 205 n c))∧Below w w w':=by
 have CR:=Zh (fun(p q:Int) (w':World) (h:Below w w w')=>QL v c p q w' (hv.below h));obtain⟨ss,LW⟩:∃x:Nat,x=get c 0 4:=⟨_,rfl⟩;have ib:=Zh (fun(w':World) (h:Below w w w')=>CR.o 0 4 w' h);rw[←LW]at ib;have bss:IntKind.u32.wrap (ss:Int)=(ss:Int):=by have:=WL c 0;rw[Nr];omega
 obtain⟨md,hmd⟩:∃x:Nat,x=get c 4 4:=⟨_,rfl⟩;have Cmd:=Zh (fun(w':World) (h:Below w w w')=>CR.o 4 4 w' h);rw[←hmd]at Cmd;have bmd:IntKind.u32.wrap (md:Int)=(md:Int):=by have:=WL c 4;rw[Nr];omega
 have HX:Hid (Xi 205 n c=⟨205,(ss:Int),0,0,0,0,[],[],(md:Int),SP c n⟩):=by
  show _=_;unfold Xi;rw[LW,hmd];simp
 generalize Xi 205 n c=X at *;clear LW hmd;have H1:Hid (GI w (((w.alloc (.cells X9 173)).alloc (.cells X9 173)).setRow (w.heap.size+1) Yz8a) Yz8):=GI.start w 205
 have hz:((w.alloc (.cells X9 173)).alloc (.cells X9 173)).heap[w.heap.size+1]?=some (.cells X9 173 (0,0)):=by
  exact oH
 clear hv;go_enter func117,ntmps117;go_upto_region 2 with(with_reducible refine Zs hz ?_)
 clear hz;generalize((w.alloc (.cells X9 173)).alloc (.cells X9 173)).setRow (w.heap.size+1) Yz8a=w1 at *;have z1:=cell_of H1.o.Y8 1;simp only[Ss,R_,Rw]at z1;have f1:=ZP H1.o.Y8 1;go_upto_region 5 with(go_at_call 118;refine(ib.o _ H1.o.Za).mono ?_;rintro e w' ⟨rfl,rfl⟩)
 have H2:Hid (GI w (w1.setCell ⟨w.heap.size+1,1,none⟩ (.int .u32 (ss:Int))) (Qe 205 (ss:Int) 0 0 0 0 none 0 0 none 0 0 0 none 0 0)):=H1.o.set 1 (.int .u32 (ss:Int));clear z1 f1;generalize w1.setCell ⟨w.heap.size+1,1,none⟩ (.int .u32 (ss:Int))=w2 at *;have z2:=cell_of H2.o.Y8 8;simp only[Ss,R_,Rw]at z2;have f2:=ZP H2.o.Y8 8;go_upto_region 14 with(go_at_call 118;refine(Cmd.o _ H2.o.Za).mono ?_;rintro e w' ⟨rfl,rfl⟩)
 have H3:Hid (GI w (w2.setCell ⟨w.heap.size+1,8,none⟩ (.int .u32 (md:Int))) (Qe 205 (ss:Int) 0 0 0 0 none 0 0 none 0 0 (md:Int) none 0 0)):=H2.o.set 8 (.int .u32 (md:Int));clear z2 f2;generalize w2.setCell ⟨w.heap.size+1,8,none⟩ (.int .u32 (md:Int))=w3 at *;go_wp2_with fail
 go_loopw [8,9] (fun s8 s9 w'=>∃(i pos:Nat) (a:Option Addr) (q:Nat),i≤n∧pos=8+4*i∧s9 = .int .i64 (i:Int)∧s8 = .int .i64 (pos:Int)∧GI w w' (Qe 205 (ss:Int) 0 0 0 0 none 0 0 none 0 0 (md:Int) a i q)∧w'.ownsRow w 226 2 (.slice a i q) i ((SP c i).flatMap VY)) (fun _ s9 _=>n-(intOf s9).toNat)
 case atStart=>exact⟨0,8,none,0,Zo,Zo,rfl,rfl,H3.o,TH _ _ _ _⟩
 case round=>
  obtain⟨i,pos,a,q,hi,PC,rfl,rfl,Ch,Yy⟩:=hrel;have HG:=Zh Ch;have HO:=Zh Yy;clear Ch Yy H3;by_cases GD:i<n
  ·obtain⟨x0,PE⟩:∃x:Nat,x=get c (pos:Int) 2:=⟨_,rfl⟩;obtain⟨x1,Sg⟩:∃x:Nat,x=get c ((pos:Int)+2) 2:=⟨_,rfl⟩
   have Lc:Hid (SP c (i+1)=SP c i++[((x0:Int),(x1:Int))]):=by
    show _=_;rw[PE,Sg,PC];unfold SP;rw[ny,Ng];rfl
   have C0:=Zh (fun(w':World) (h:Below w w w')=>CR.o (pos:Int) 2 w' h);rw[←PE]at C0;have Nh:IntKind.u16.wrap (x0:Int)=(x0:Int):=by have:=Mi c (pos:Int);rw[IntKind.wrap_u16];omega
   have C1:=Zh (fun(w':World) (h:Below w w w')=>CR.o ((pos:Int)+2) 2 w' h);rw[←Sg]at C1;have YV:IntKind.u16.wrap (x1:Int)=(x1:Int):=by have:=Mi c ((pos:Int)+2);rw[IntKind.wrap_u16];omega
   have Co:IntKind.i64.wrap ((pos:Int)+2)=(pos:Int)+2:=SZ _ Zo;have cz:IntKind.i64.wrap ((pos:Int)+4)=(pos:Int)+4:=SZ _ Zo;have Cq:pos≤100000:=by omega
   have Nb:=Zh PC;clear PC PE Sg;go_upto_region 25 with fail
   have HG:=Zh (HG.o.below (YE _ _).drew);have HO:=Zh (Yq HO.o (YE _ _).drew);have k0:(wr.drew).cell? ⟨w.heap.size+1,9,none⟩=some (.slice a i q):=Zc HG.o.Y8 9 rfl;refine RX ?_;refine Zj (d:=15) (S:=(fun w'=>w'.cell? ⟨w.heap.size+1,9,none⟩=some (.slice a i q))) X6 ?_ (fun _=>?_)
   ·exact k0
   refine YP 0 (h:=YP 2 (h:=YP 3 (h:=YP 6 (h:=YP 7 (h:=YP 8 (h:=YK 1 (h:=?_)))))));refine YR 4 (h:=fun K hK=>?_);go_simp;refine(C0.o _ HG.o.Za).mono ?_;rintro e w' ⟨rfl,rfl⟩;go_wp2_with fail
   refine YY hK _ _ ?_ (fun _=>?_)
   ·first|exact k2|exact k1|exact k0
   clear hK K;try simp only[pt]
   refine YP 5 (h:=?_);refine YR 9 (h:=fun K hK=>?_);go_simp;refine(C1.o _ HG.o.Za).mono ?_;rintro e w' ⟨rfl,rfl⟩;go_wp2_with fail
   refine YY hK _ _ ?_ (fun _=>?_)
   ·first|exact k2|exact k1|exact k0
   clear hK K;try simp only[pt]
   refine YP 10 (h:=YP 11 (h:=?_));refine YR 12 (h:=fun K hK=>?_);refine W9 Zr J6 (.tmp 119) Zr (Qz (x0:Int) (x1:Int)) Zr Zr Zd ?_;have HG:=Zh (HG.o.below (Z' wr.drew (.cells (Qz (x0:Int) (x1:Int)) 226)));have HO:=Zh (Yq HO.o (Z' wr.drew (.cells (Qz (x0:Int) (x1:Int)) 226)));have k1:=cell_of HG.o.Y8 9;simp only[Ss,R_,Rw]at k1;refine YY hK _ _ ?_ (fun _=>?_)
   ·first|exact k2|exact k1|exact k0
   clear hK K;try simp only[pt]
   refine YR 13 (h:=fun K hK=>?_);refine Y9 Zr (.tmp 109) (.tmp 120) 171 Zr w J6 (.slice a i q) i ((SP c i).flatMap VY) Zr HO.o _ 1 ([((x0:Int),(x1:Int))].flatMap VY) Zr (Vw wr.drew 226 1 ([((x0:Int),(x1:Int))].flatMap VY) Zd) rfl (UT fun x _=>yJ x) Zo Zo ?_ ?_
   ·exact HG.o.Za.size
   intro v' w6 Hf wG;obtain⟨na,nq,Na,-⟩:=Row.Z4 Hf.o;subst Na;have HG:=Zh (HG.o.grown HO.o Zd wG.o);have HO:Hid (w6.ownsRow w 226 2 (.slice na (i+1) nq) (i+1) ((SP c i++[((x0:Int),(x1:Int))]).flatMap VY)):=(by have h:=Hf.o;rw[←O7]at h;exact h);have k2:=cell_of HG.o.Y8 9;simp only[Ss,R_,Rw]at k2;have f2:=ZP HG.o.Y8 9;refine YY hK _ _ ?_ (fun _=>?_)
   ·first|exact k2|exact k1|exact k0
   clear hK K;try simp only[pt]
   refine YP 14 (h:=?_);refine YR 15 (h:=fun K hK=>?_);go_simp;refine Ye hK _ _ X6 ?_;clear hK K;try simp only[pt]
   refine Yt X6 ?_ _;refine QP ?_;go_wp2_with fail
   go_roundw
   case rel=>
    refine⟨i+1,pos+4,na,nq,Zo,by have:=Nb.o;omega,Zn,Zn,?_,?_⟩
    ·exact HG.o.set 9 (.slice na (i+1) nq)
    ·rw[Lc.o];exact I5 HO.o HG.o.Y8 Zd _ _
   case measure=>simp[intOf];omega
  ·have tY:i=n:=by omega
   subst tY;have R8:=Zh (Row.Z4 HO.o);have TS:=HG.o.z;have Uu:=HG.o.Y8;go_wp2_with (first|with_reducible refine Zl Uu underlying173 ?_|(with_reducible refine Zs (cells:=(Qe 205 (ss:Int) 0 0 0 0 none 0 0 none 0 0 (md:Int) a i q)) TS ?_))
   refine Vr (v:= .agg (Qe 205 (ss:Int) 0 0 0 0 none 0 0 none 0 0 (md:Int) a i q)) ?_ rfl ?_
   ·exact results_cell_row Zr _ _ w 173 (Qe 205 (ss:Int) 0 0 0 0 none 0 0 none 0 0 (md:Int) a i q) (0,0) _ Zr (setRow_heap _ _ _ _ _ _ TS) underlying173 rfl X6
   refine⟨⟨_,rfl,?_⟩,Z0 HG.o.Za (Zq _) _⟩;rw[HX.o];have hr:TW wr ⟨⟨205,(ss:Int),0,0,0,0,[],[],(md:Int),SP c i⟩,.slice none 0 0,.slice none 0 0,.slice a i q⟩:=⟨Row.nil _ _,Row.nil _ _,by show Row wr _ _ (SP c i).length _;rw[show(SP c i).length=i by unfold SP;rw[Te,List.length_range]];exact R8.o⟩;have OA:=TW.setRow hr TS (Qe 205 (ss:Int) 0 0 0 0 none 0 0 none 0 0 (md:Int) a i q);exact⟨_,_,_,rfl,OA.b,OA.g,OA.p⟩
def uQ(v:Value)(n:Nat)(c:List UInt8)(w:World)(hv:XU w v c)(hn:n≤1000) :
  Calls prog 117 (Jb 201 (n:Int) v) w fun e w'=>(∃a,e = .returned a∧SH w' a (Xi 201 n c))∧Below w w w':=by
 have CR:=Zh (fun(p q:Int) (w':World) (h:Below w w w')=>QL v c p q w' (hv.below h));obtain⟨ss,LW⟩:∃x:Nat,x=get c 0 4:=⟨_,rfl⟩;have ib:=Zh (fun(w':World) (h:Below w w w')=>CR.o 0 4 w' h);rw[←LW]at ib;have bss:IntKind.u32.wrap (ss:Int)=(ss:Int):=by have:=WL c 0;rw[Nr];omega
 have HX:Hid (Xi 201 n c=⟨201,(ss:Int),0,0,0,0,U3 c 4 n,[],0,[]⟩):=by
  show _=_;unfold Xi;rw[LW];simp
 generalize Xi 201 n c=X at *;clear LW;have H1:Hid (GI w (((w.alloc (.cells X9 173)).alloc (.cells X9 173)).setRow (w.heap.size+1) Yz9a) Yz9):=GI.start w 201
 have hz:((w.alloc (.cells X9 173)).alloc (.cells X9 173)).heap[w.heap.size+1]?=some (.cells X9 173 (0,0)):=by
  exact oH
 clear hv;go_enter func117,ntmps117;go_upto_region 2 with(with_reducible refine Zs hz ?_)
 clear hz;generalize((w.alloc (.cells X9 173)).alloc (.cells X9 173)).setRow (w.heap.size+1) Yz9a=w1 at *;have z1:=cell_of H1.o.Y8 1;simp only[Ss,R_,Rw]at z1;have f1:=ZP H1.o.Y8 1;go_upto_region 5 with(go_at_call 118;refine(ib.o _ H1.o.Za).mono ?_;rintro e w' ⟨rfl,rfl⟩)
 have H2:Hid (GI w (w1.setCell ⟨w.heap.size+1,1,none⟩ (.int .u32 (ss:Int))) (Qe 201 (ss:Int) 0 0 0 0 none 0 0 none 0 0 0 none 0 0)):=H1.o.set 1 (.int .u32 (ss:Int));clear z1 f1;generalize w1.setCell ⟨w.heap.size+1,1,none⟩ (.int .u32 (ss:Int))=w2 at *;go_wp2_with fail
 go_loopw [8,9] (fun s8 s9 w'=>∃(i pos:Nat) (a:Option Addr) (q:Nat),i≤n∧pos=4+24*i∧s9 = .int .i64 (i:Int)∧s8 = .int .i64 (pos:Int)∧GI w w' (Qe 201 (ss:Int) 0 0 0 0 a i q none 0 0 0 none 0 0)∧w'.ownsRow w 228 7 (.slice a i q) i ((U3 c 4 i).flatMap WW)) (fun _ s9 _=>n-(intOf s9).toNat)
 case atStart=>exact⟨0,4,none,0,Zo,Zo,rfl,rfl,H2.o,TH _ _ _ _⟩
 case round=>
  obtain⟨i,pos,a,q,hi,PC,rfl,rfl,Ch,Yy⟩:=hrel;have HG:=Zh Ch;have HO:=Zh Yy;clear Ch Yy H2;by_cases GD:i<n
  ·obtain⟨x0,PE⟩:∃x:Nat,x=get c (pos:Int) 4:=⟨_,rfl⟩;obtain⟨x1,Sg⟩:∃x:Nat,x=get c ((pos:Int)+4) 1:=⟨_,rfl⟩;obtain⟨x2,Nv⟩:∃x:Nat,x=get c ((pos:Int)+5) 3:=⟨_,rfl⟩;obtain⟨x3,SA⟩:∃x:Nat,x=get c ((pos:Int)+8) 4:=⟨_,rfl⟩;obtain⟨x4,K7⟩:∃x:Nat,x=get c ((pos:Int)+12) 4:=⟨_,rfl⟩;obtain⟨x5,Ia⟩:∃x:Nat,x=get c ((pos:Int)+16) 4:=⟨_,rfl⟩;obtain⟨x6,hx6⟩:∃x:Nat,x=get c ((pos:Int)+20) 4:=⟨_,rfl⟩
   have Lc:Hid (U3 c 4 (i+1)=U3 c 4 i++[⟨x0,x1,x2,x3,x4,x5,x6⟩]):=by
    show _=_;rw[PE,Sg,Nv,SA,K7,Ia,hx6,PC];unfold U3;rw[ny,Ng];rfl
   have C0:=Zh (fun(w':World) (h:Below w w w')=>CR.o (pos:Int) 4 w' h);rw[←PE]at C0;have Nh:IntKind.u32.wrap (x0:Int)=(x0:Int):=by have:=WL c (pos:Int);rw[Nr];omega
   have C1:=Zh (fun(w':World) (h:Below w w w')=>CR.o ((pos:Int)+4) 1 w' h);rw[←Sg]at C1;have YV:IntKind.u8.wrap (x1:Int)=(x1:Int):=by have:=rH c ((pos:Int)+4);rw[IntKind.wrap_u8];omega
   have Co:IntKind.i64.wrap ((pos:Int)+4)=(pos:Int)+4:=SZ _ Zo;have C2:=Zh (fun(w':World) (h:Below w w w')=>CR.o ((pos:Int)+5) 3 w' h);rw[←Nv]at C2;have Y7:IntKind.u32.wrap (x2:Int)=(x2:Int):=by have:=rI c ((pos:Int)+5);rw[Nr];omega
   have hp2:IntKind.i64.wrap ((pos:Int)+5)=(pos:Int)+5:=SZ _ Zo;have C3:=Zh (fun(w':World) (h:Below w w w')=>CR.o ((pos:Int)+8) 4 w' h);rw[←SA]at C3;have WM:IntKind.u32.wrap (x3:Int)=(x3:Int):=by have:=WL c ((pos:Int)+8);rw[Nr];omega
   have hp3:IntKind.i64.wrap ((pos:Int)+8)=(pos:Int)+8:=SZ _ Zo;have C4:=Zh (fun(w':World) (h:Below w w w')=>CR.o ((pos:Int)+12) 4 w' h);rw[←K7]at C4;have S0:IntKind.u32.wrap (x4:Int)=(x4:Int):=by have:=WL c ((pos:Int)+12);rw[Nr];omega
   have hp4:IntKind.i64.wrap ((pos:Int)+12)=(pos:Int)+12:=SZ _ Zo;have C5:=Zh (fun(w':World) (h:Below w w w')=>CR.o ((pos:Int)+16) 4 w' h);rw[←Ia]at C5;have Nu:IntKind.u32.wrap (x5:Int)=(x5:Int):=by have:=WL c ((pos:Int)+16);rw[Nr];omega
   have hp5:IntKind.i64.wrap ((pos:Int)+16)=(pos:Int)+16:=SZ _ Zo;have C6:=Zh (fun(w':World) (h:Below w w w')=>CR.o ((pos:Int)+20) 4 w' h);rw[←hx6]at C6;have Cg:IntKind.u32.wrap (x6:Int)=(x6:Int):=by have:=WL c ((pos:Int)+20);rw[Nr];omega
   have hp6:IntKind.i64.wrap ((pos:Int)+20)=(pos:Int)+20:=SZ _ Zo;have cz:IntKind.i64.wrap ((pos:Int)+24)=(pos:Int)+24:=SZ _ Zo;have Cq:pos≤100000:=by omega
   have Nb:=Zh PC;clear PC PE Sg Nv SA K7 Ia hx6;go_upto_region 19 with fail
   have HG:=Zh (HG.o.below (YE _ _).drew);have HO:=Zh (Yq HO.o (YE _ _).drew);have k0:(wr.drew).cell? ⟨w.heap.size+1,6,none⟩=some (.slice a i q):=Zc HG.o.Y8 6 rfl;refine RX ?_;refine Zj (d:=40) (S:=(fun w'=>w'.cell? ⟨w.heap.size+1,6,none⟩=some (.slice a i q))) X6 ?_ (fun _=>?_)
   ·exact k0
   refine YP 0 (h:=YP 2 (h:=YP 3 (h:=YP 6 (h:=YP 7 (h:=YP 8 (h:=YP 11 (h:=YP 12 (h:=YP 13 (h:=YP 16 (h:=YP 17 (h:=YP 18 (h:=YP 21 (h:=YP 22 (h:=YP 23 (h:=YP 26 (h:=YP 27 (h:=YP 28 (h:=YP 31 (h:=YP 32 (h:=YP 33 (h:=YK 1 (h:=?_))))))))))))))))))))));refine YR 4 (h:=fun K hK=>?_);go_simp;refine(C0.o _ HG.o.Za).mono ?_;rintro e w' ⟨rfl,rfl⟩;go_wp2_with fail
   refine YY hK _ _ ?_ (fun _=>?_)
   ·first|exact k2|exact k1|exact k0
   clear hK K;try simp only[pt]
   refine YP 5 (h:=?_);refine YR 9 (h:=fun K hK=>?_);go_simp;refine(C1.o _ HG.o.Za).mono ?_;rintro e w' ⟨rfl,rfl⟩;go_wp2_with fail
   refine YY hK _ _ ?_ (fun _=>?_)
   ·first|exact k2|exact k1|exact k0
   clear hK K;try simp only[pt]
   refine YP 10 (h:=?_);refine YR 14 (h:=fun K hK=>?_);go_simp;refine(C2.o _ HG.o.Za).mono ?_;rintro e w' ⟨rfl,rfl⟩;go_wp2_with fail
   refine YY hK _ _ ?_ (fun _=>?_)
   ·first|exact k2|exact k1|exact k0
   clear hK K;try simp only[pt]
   refine YP 15 (h:=?_);refine YR 19 (h:=fun K hK=>?_);go_simp;refine(C3.o _ HG.o.Za).mono ?_;rintro e w' ⟨rfl,rfl⟩;go_wp2_with fail
   refine YY hK _ _ ?_ (fun _=>?_)
   ·first|exact k2|exact k1|exact k0
   clear hK K;try simp only[pt]
   refine YP 20 (h:=?_);refine YR 24 (h:=fun K hK=>?_);go_simp;refine(C4.o _ HG.o.Za).mono ?_;rintro e w' ⟨rfl,rfl⟩;go_wp2_with fail
   refine YY hK _ _ ?_ (fun _=>?_)
   ·first|exact k2|exact k1|exact k0
   clear hK K;try simp only[pt]
   refine YP 25 (h:=?_);refine YR 29 (h:=fun K hK=>?_);go_simp;refine(C5.o _ HG.o.Za).mono ?_;rintro e w' ⟨rfl,rfl⟩;go_wp2_with fail
   refine YY hK _ _ ?_ (fun _=>?_)
   ·first|exact k2|exact k1|exact k0
   clear hK K;try simp only[pt]
   refine YP 30 (h:=?_);refine YR 34 (h:=fun K hK=>?_);go_simp;refine(C6.o _ HG.o.Za).mono ?_;rintro e w' ⟨rfl,rfl⟩;go_wp2_with fail
   refine YY hK _ _ ?_ (fun _=>?_)
   ·first|exact k2|exact k1|exact k0
   clear hK K;try simp only[pt]
   refine YP 35 (h:=YP 36 (h:=?_));refine YR 37 (h:=fun K hK=>?_);refine W9 Zr Mf (.tmp 87) Zr (Qt (x0:Int) (x1:Int) (x2:Int) (x3:Int) (x4:Int) (x5:Int) (x6:Int)) Zr Zr Zd ?_;have HG:=Zh (HG.o.below (Z' wr.drew (.cells (Qt (x0:Int) (x1:Int) (x2:Int) (x3:Int) (x4:Int) (x5:Int) (x6:Int)) 228)));have HO:=Zh (Yq HO.o (Z' wr.drew (.cells (Qt (x0:Int) (x1:Int) (x2:Int) (x3:Int) (x4:Int) (x5:Int) (x6:Int)) 228)));have k1:=cell_of HG.o.Y8 6;simp only[Ss,R_,Rw]at k1;refine YY hK _ _ ?_ (fun _=>?_)
   ·first|exact k2|exact k1|exact k0
   clear hK K;try simp only[pt]
   refine YR 38 (h:=fun K hK=>?_);refine Y9 Zr (.tmp 52) (.tmp 88) 170 Zr w Mf (.slice a i q) i ((U3 c 4 i).flatMap WW) Zr HO.o _ 1 ([(⟨x0,x1,x2,x3,x4,x5,x6⟩:nJ)].flatMap WW) Zr (Vw wr.drew 228 1 ([(⟨x0,x1,x2,x3,x4,x5,x6⟩:nJ)].flatMap WW) Zd) rfl (UT fun x _=>Ao x) Zo Zo ?_ ?_
   ·exact HG.o.Za.size
   intro v' w6 Hf wG;obtain⟨na,nq,Na,-⟩:=Row.Z4 Hf.o;subst Na;have HG:=Zh (HG.o.grown HO.o Zd wG.o);have HO:Hid (w6.ownsRow w 228 7 (.slice na (i+1) nq) (i+1) ((U3 c 4 i++[(⟨x0,x1,x2,x3,x4,x5,x6⟩:nJ)]).flatMap WW)):=(by have h:=Hf.o;rw[←O7]at h;exact h);exact Yx50
  ·have tY:i=n:=by omega
   subst tY;have R8:=Zh (Row.Z4 HO.o);have TS:=HG.o.z;have Uu:=HG.o.Y8;go_wp2_with (first|with_reducible refine Zl Uu underlying173 ?_|(with_reducible refine Zs (cells:=(Qe 201 (ss:Int) 0 0 0 0 a i q none 0 0 0 none 0 0)) TS ?_))
   refine Vr (v:= .agg (Qe 201 (ss:Int) 0 0 0 0 a i q none 0 0 0 none 0 0)) ?_ rfl ?_
   ·exact results_cell_row Zr _ _ w 173 (Qe 201 (ss:Int) 0 0 0 0 a i q none 0 0 0 none 0 0) (0,0) _ Zr (setRow_heap _ _ _ _ _ _ TS) underlying173 rfl X6
   refine⟨⟨_,rfl,?_⟩,Z0 HG.o.Za (Zq _) _⟩;rw[HX.o];have hr:TW wr ⟨⟨201,(ss:Int),0,0,0,0,U3 c 4 i,[],0,[]⟩,.slice a i q,.slice none 0 0,.slice none 0 0⟩:=⟨by show Row wr _ _ (U3 c 4 i).length _;rw[show(U3 c 4 i).length=i by unfold U3;rw[Te,List.length_range]];exact R8.o,Row.nil _ _,Row.nil _ _⟩;have OA:=TW.setRow hr TS (Qe 201 (ss:Int) 0 0 0 0 a i q none 0 0 0 none 0 0);exact⟨_,_,_,rfl,OA.b,OA.g,OA.p⟩
def uR(v:Value)(n:Nat)(c:List UInt8)(w:World)(hv:XU w v c)(hn:n≤1000) :
  Calls prog 117 (Jb 200 (n:Int) v) w fun e w'=>(∃a,e = .returned a∧SH w' a (Xi 200 n c))∧Below w w w':=by
 have CR:=Zh (fun(p q:Int) (w':World) (h:Below w w w')=>QL v c p q w' (hv.below h));obtain⟨ss,LW⟩:∃x:Nat,x=get c 0 4:=⟨_,rfl⟩;have ib:=Zh (fun(w':World) (h:Below w w w')=>CR.o 0 4 w' h);rw[←LW]at ib;have bss:IntKind.u32.wrap (ss:Int)=(ss:Int):=by have:=WL c 0;rw[Nr];omega
 obtain⟨nt,hnt⟩:∃x:Nat,x=get c 4 8:=⟨_,rfl⟩;have Cnt:=Zh (fun(w':World) (h:Below w w w')=>CR.o 4 8 w' h);rw[←hnt]at Cnt;obtain⟨tm,fU⟩:∃x:Nat,x=get c 12 4:=⟨_,rfl⟩;have Ctm:=Zh (fun(w':World) (h:Below w w w')=>CR.o 12 4 w' h);rw[←fU]at Ctm;have btm:IntKind.u32.wrap (tm:Int)=(tm:Int):=by have:=WL c 12;rw[Nr];omega
 obtain⟨pk,hpk⟩:∃x:Nat,x=get c 16 4:=⟨_,rfl⟩;have Cpk:=Zh (fun(w':World) (h:Below w w w')=>CR.o 16 4 w' h);rw[←hpk]at Cpk;have bpk:IntKind.u32.wrap (pk:Int)=(pk:Int):=by have:=WL c 16;rw[Nr];omega
 obtain⟨oc,hoc⟩:∃x:Nat,x=get c 20 4:=⟨_,rfl⟩;have Coc:=Zh (fun(w':World) (h:Below w w w')=>CR.o 20 4 w' h);rw[←hoc]at Coc;have boc:IntKind.u32.wrap (oc:Int)=(oc:Int):=by have:=WL c 20;rw[Nr];omega
 have HX:Hid (Xi 200 n c=⟨200,(ss:Int),(nt:Int),(tm:Int),(pk:Int),(oc:Int),U3 c 24 n,[],0,[]⟩):=by
  show _=_;unfold Xi;rw[LW,hnt,fU,hpk,hoc];simp
 generalize Xi 200 n c=X at *;clear LW hnt fU hpk hoc;have H1:Hid (GI w (((w.alloc (.cells X9 173)).alloc (.cells X9 173)).setRow (w.heap.size+1) bE) Yz10):=GI.start w 200
 have hz:((w.alloc (.cells X9 173)).alloc (.cells X9 173)).heap[w.heap.size+1]?=some (.cells X9 173 (0,0)):=by
  exact oH
 clear hv;go_enter func117,ntmps117;go_upto_region 2 with(with_reducible refine Zs hz ?_)
 clear hz;generalize((w.alloc (.cells X9 173)).alloc (.cells X9 173)).setRow (w.heap.size+1) bE=w1 at *;have z1:=cell_of H1.o.Y8 1;simp only[Ss,R_,Rw]at z1;have f1:=ZP H1.o.Y8 1;go_upto_region 5 with(go_at_call 118;refine(ib.o _ H1.o.Za).mono ?_;rintro e w' ⟨rfl,rfl⟩)
 have H2:Hid (GI w (w1.setCell ⟨w.heap.size+1,1,none⟩ (.int .u32 (ss:Int))) (Qe 200 (ss:Int) 0 0 0 0 none 0 0 none 0 0 0 none 0 0)):=H1.o.set 1 (.int .u32 (ss:Int));clear z1 f1;generalize w1.setCell ⟨w.heap.size+1,1,none⟩ (.int .u32 (ss:Int))=w2 at *;have z2:=cell_of H2.o.Y8 2;simp only[Ss,R_,Rw]at z2;have f2:=ZP H2.o.Y8 2;go_upto_region 8 with(go_at_call 118;refine(Cnt.o _ H2.o.Za).mono ?_;rintro e w' ⟨rfl,rfl⟩)
 have H3:Hid (GI w (w2.setCell ⟨w.heap.size+1,2,none⟩ (.int .u64 (nt:Int))) (Qe 200 (ss:Int) (nt:Int) 0 0 0 none 0 0 none 0 0 0 none 0 0)):=H2.o.set 2 (.int .u64 (nt:Int));clear z2 f2;generalize w2.setCell ⟨w.heap.size+1,2,none⟩ (.int .u64 (nt:Int))=w3 at *;have z3:=cell_of H3.o.Y8 3;simp only[Ss,R_,Rw]at z3;have f3:=ZP H3.o.Y8 3;go_upto_region 9 with(go_at_call 118;refine(Ctm.o _ H3.o.Za).mono ?_;rintro e w' ⟨rfl,rfl⟩)
 have H4:Hid (GI w (w3.setCell ⟨w.heap.size+1,3,none⟩ (.int .u32 (tm:Int))) (Qe 200 (ss:Int) (nt:Int) (tm:Int) 0 0 none 0 0 none 0 0 0 none 0 0)):=H3.o.set 3 (.int .u32 (tm:Int));clear z3 f3;generalize w3.setCell ⟨w.heap.size+1,3,none⟩ (.int .u32 (tm:Int))=w4 at *;have z4:=cell_of H4.o.Y8 4;simp only[Ss,R_,Rw]at z4;have f4:=ZP H4.o.Y8 4;go_upto_region 10 with(go_at_call 118;refine(Cpk.o _ H4.o.Za).mono ?_;rintro e w' ⟨rfl,rfl⟩)
 have H5:Hid (GI w (w4.setCell ⟨w.heap.size+1,4,none⟩ (.int .u32 (pk:Int))) (Qe 200 (ss:Int) (nt:Int) (tm:Int) (pk:Int) 0 none 0 0 none 0 0 0 none 0 0)):=H4.o.set 4 (.int .u32 (pk:Int));clear z4 f4;generalize w4.setCell ⟨w.heap.size+1,4,none⟩ (.int .u32 (pk:Int))=w5 at *;have z5:=cell_of H5.o.Y8 5;simp only[Ss,R_,Rw]at z5;have f5:=ZP H5.o.Y8 5;go_upto_region 11 with(go_at_call 118;refine(Coc.o _ H5.o.Za).mono ?_;rintro e w' ⟨rfl,rfl⟩)
 have H6:Hid (GI w (w5.setCell ⟨w.heap.size+1,5,none⟩ (.int .u32 (oc:Int))) (Qe 200 (ss:Int) (nt:Int) (tm:Int) (pk:Int) (oc:Int) none 0 0 none 0 0 0 none 0 0)):=H5.o.set 5 (.int .u32 (oc:Int));clear z5 f5;generalize w5.setCell ⟨w.heap.size+1,5,none⟩ (.int .u32 (oc:Int))=w6 at *;go_wp2_with fail
 go_loopw [8,9] (fun s8 s9 w'=>∃(i pos:Nat) (a:Option Addr) (q:Nat),i≤n∧pos=24+24*i∧s9 = .int .i64 (i:Int)∧s8 = .int .i64 (pos:Int)∧GI w w' (Qe 200 (ss:Int) (nt:Int) (tm:Int) (pk:Int) (oc:Int) a i q none 0 0 0 none 0 0)∧w'.ownsRow w 228 7 (.slice a i q) i ((U3 c 24 i).flatMap WW)) (fun _ s9 _=>n-(intOf s9).toNat)
 case atStart=>exact⟨0,24,none,0,Zo,Zo,rfl,rfl,H6.o,TH _ _ _ _⟩
 case round=>
  obtain⟨i,pos,a,q,hi,PC,rfl,rfl,Ch,Yy⟩:=hrel;have HG:=Zh Ch;have HO:=Zh Yy;clear Ch Yy H6;by_cases GD:i<n
  ·obtain⟨x0,PE⟩:∃x:Nat,x=get c (pos:Int) 4:=⟨_,rfl⟩;obtain⟨x1,Sg⟩:∃x:Nat,x=get c ((pos:Int)+4) 1:=⟨_,rfl⟩;obtain⟨x2,Nv⟩:∃x:Nat,x=get c ((pos:Int)+5) 3:=⟨_,rfl⟩;obtain⟨x3,SA⟩:∃x:Nat,x=get c ((pos:Int)+8) 4:=⟨_,rfl⟩;obtain⟨x4,K7⟩:∃x:Nat,x=get c ((pos:Int)+12) 4:=⟨_,rfl⟩;obtain⟨x5,Ia⟩:∃x:Nat,x=get c ((pos:Int)+16) 4:=⟨_,rfl⟩;obtain⟨x6,hx6⟩:∃x:Nat,x=get c ((pos:Int)+20) 4:=⟨_,rfl⟩
   have Lc:Hid (U3 c 24 (i+1)=U3 c 24 i++[⟨x0,x1,x2,x3,x4,x5,x6⟩]):=by
    show _=_;rw[PE,Sg,Nv,SA,K7,Ia,hx6,PC];unfold U3;rw[ny,Ng];rfl
   have C0:=Zh (fun(w':World) (h:Below w w w')=>CR.o (pos:Int) 4 w' h);rw[←PE]at C0;have Nh:IntKind.u32.wrap (x0:Int)=(x0:Int):=by have:=WL c (pos:Int);rw[Nr];omega
   have C1:=Zh (fun(w':World) (h:Below w w w')=>CR.o ((pos:Int)+4) 1 w' h);rw[←Sg]at C1;have YV:IntKind.u8.wrap (x1:Int)=(x1:Int):=by have:=rH c ((pos:Int)+4);rw[IntKind.wrap_u8];omega
   have Co:IntKind.i64.wrap ((pos:Int)+4)=(pos:Int)+4:=SZ _ Zo;have C2:=Zh (fun(w':World) (h:Below w w w')=>CR.o ((pos:Int)+5) 3 w' h);rw[←Nv]at C2;have Y7:IntKind.u32.wrap (x2:Int)=(x2:Int):=by have:=rI c ((pos:Int)+5);rw[Nr];omega
   have hp2:IntKind.i64.wrap ((pos:Int)+5)=(pos:Int)+5:=SZ _ Zo;have C3:=Zh (fun(w':World) (h:Below w w w')=>CR.o ((pos:Int)+8) 4 w' h);rw[←SA]at C3;have WM:IntKind.u32.wrap (x3:Int)=(x3:Int):=by have:=WL c ((pos:Int)+8);rw[Nr];omega
   have hp3:IntKind.i64.wrap ((pos:Int)+8)=(pos:Int)+8:=SZ _ Zo;have C4:=Zh (fun(w':World) (h:Below w w w')=>CR.o ((pos:Int)+12) 4 w' h);rw[←K7]at C4;have S0:IntKind.u32.wrap (x4:Int)=(x4:Int):=by have:=WL c ((pos:Int)+12);rw[Nr];omega
   have hp4:IntKind.i64.wrap ((pos:Int)+12)=(pos:Int)+12:=SZ _ Zo;have C5:=Zh (fun(w':World) (h:Below w w w')=>CR.o ((pos:Int)+16) 4 w' h);rw[←Ia]at C5;have Nu:IntKind.u32.wrap (x5:Int)=(x5:Int):=by have:=WL c ((pos:Int)+16);rw[Nr];omega
   have hp5:IntKind.i64.wrap ((pos:Int)+16)=(pos:Int)+16:=SZ _ Zo;have C6:=Zh (fun(w':World) (h:Below w w w')=>CR.o ((pos:Int)+20) 4 w' h);rw[←hx6]at C6;have Cg:IntKind.u32.wrap (x6:Int)=(x6:Int):=by have:=WL c ((pos:Int)+20);rw[Nr];omega
   have hp6:IntKind.i64.wrap ((pos:Int)+20)=(pos:Int)+20:=SZ _ Zo;have cz:IntKind.i64.wrap ((pos:Int)+24)=(pos:Int)+24:=SZ _ Zo;have Cq:pos≤100000:=by omega
   have Nb:=Zh PC;clear PC PE Sg Nv SA K7 Ia hx6;go_upto_region 19 with fail
   have HG:=Zh (HG.o.below (YE _ _).drew);have HO:=Zh (Yq HO.o (YE _ _).drew);have k0:(wr.drew).cell? ⟨w.heap.size+1,6,none⟩=some (.slice a i q):=Zc HG.o.Y8 6 rfl;refine RX ?_;refine Zj (d:=40) (S:=(fun w'=>w'.cell? ⟨w.heap.size+1,6,none⟩=some (.slice a i q))) X6 ?_ (fun _=>?_)
   ·exact k0
   refine YP 0 (h:=YP 2 (h:=YP 3 (h:=YP 6 (h:=YP 7 (h:=YP 8 (h:=YP 11 (h:=YP 12 (h:=YP 13 (h:=YP 16 (h:=YP 17 (h:=YP 18 (h:=YP 21 (h:=YP 22 (h:=YP 23 (h:=YP 26 (h:=YP 27 (h:=YP 28 (h:=YP 31 (h:=YP 32 (h:=YP 33 (h:=YK 1 (h:=?_))))))))))))))))))))));refine YR 4 (h:=fun K hK=>?_);go_simp;refine(C0.o _ HG.o.Za).mono ?_;rintro e w' ⟨rfl,rfl⟩;go_wp2_with fail
   refine YY hK _ _ ?_ (fun _=>?_)
   ·first|exact k2|exact k1|exact k0
   clear hK K;try simp only[pt]
   refine YP 5 (h:=?_);refine YR 9 (h:=fun K hK=>?_);go_simp;refine(C1.o _ HG.o.Za).mono ?_;rintro e w' ⟨rfl,rfl⟩;go_wp2_with fail
   refine YY hK _ _ ?_ (fun _=>?_)
   ·first|exact k2|exact k1|exact k0
   clear hK K;try simp only[pt]
   refine YP 10 (h:=?_);refine YR 14 (h:=fun K hK=>?_);go_simp;refine(C2.o _ HG.o.Za).mono ?_;rintro e w' ⟨rfl,rfl⟩;go_wp2_with fail
   refine YY hK _ _ ?_ (fun _=>?_)
   ·first|exact k2|exact k1|exact k0
   clear hK K;try simp only[pt]
   refine YP 15 (h:=?_);refine YR 19 (h:=fun K hK=>?_);go_simp;refine(C3.o _ HG.o.Za).mono ?_;rintro e w' ⟨rfl,rfl⟩;go_wp2_with fail
   refine YY hK _ _ ?_ (fun _=>?_)
   ·first|exact k2|exact k1|exact k0
   clear hK K;try simp only[pt]
   refine YP 20 (h:=?_);refine YR 24 (h:=fun K hK=>?_);go_simp;refine(C4.o _ HG.o.Za).mono ?_;rintro e w' ⟨rfl,rfl⟩;go_wp2_with fail
   refine YY hK _ _ ?_ (fun _=>?_)
   ·first|exact k2|exact k1|exact k0
   clear hK K;try simp only[pt]
   refine YP 25 (h:=?_);refine YR 29 (h:=fun K hK=>?_);go_simp;refine(C5.o _ HG.o.Za).mono ?_;rintro e w' ⟨rfl,rfl⟩;go_wp2_with fail
   refine YY hK _ _ ?_ (fun _=>?_)
   ·first|exact k2|exact k1|exact k0
   clear hK K;try simp only[pt]
   refine YP 30 (h:=?_);refine YR 34 (h:=fun K hK=>?_);go_simp;refine(C6.o _ HG.o.Za).mono ?_;rintro e w' ⟨rfl,rfl⟩;go_wp2_with fail
   refine YY hK _ _ ?_ (fun _=>?_)
   ·first|exact k2|exact k1|exact k0
   clear hK K;try simp only[pt]
   refine YP 35 (h:=YP 36 (h:=?_));refine YR 37 (h:=fun K hK=>?_);refine W9 Zr Mf (.tmp 87) Zr (Qt (x0:Int) (x1:Int) (x2:Int) (x3:Int) (x4:Int) (x5:Int) (x6:Int)) Zr Zr Zd ?_;have HG:=Zh (HG.o.below (Z' wr.drew (.cells (Qt (x0:Int) (x1:Int) (x2:Int) (x3:Int) (x4:Int) (x5:Int) (x6:Int)) 228)));have HO:=Zh (Yq HO.o (Z' wr.drew (.cells (Qt (x0:Int) (x1:Int) (x2:Int) (x3:Int) (x4:Int) (x5:Int) (x6:Int)) 228)));have k1:=cell_of HG.o.Y8 6;simp only[Ss,R_,Rw]at k1;refine YY hK _ _ ?_ (fun _=>?_)
   ·first|exact k2|exact k1|exact k0
   clear hK K;try simp only[pt]
   refine YR 38 (h:=fun K hK=>?_);refine Y9 Zr (.tmp 52) (.tmp 88) 170 Zr w Mf (.slice a i q) i ((U3 c 24 i).flatMap WW) Zr HO.o _ 1 ([(⟨x0,x1,x2,x3,x4,x5,x6⟩:nJ)].flatMap WW) Zr (Vw wr.drew 228 1 ([(⟨x0,x1,x2,x3,x4,x5,x6⟩:nJ)].flatMap WW) Zd) rfl (UT fun x _=>Ao x) Zo Zo ?_ ?_
   ·exact HG.o.Za.size
   intro v' w6 Hf wG;obtain⟨na,nq,Na,-⟩:=Row.Z4 Hf.o;subst Na;have HG:=Zh (HG.o.grown HO.o Zd wG.o);have HO:Hid (w6.ownsRow w 228 7 (.slice na (i+1) nq) (i+1) ((U3 c 24 i++[(⟨x0,x1,x2,x3,x4,x5,x6⟩:nJ)]).flatMap WW)):=(by have h:=Hf.o;rw[←O7]at h;exact h);exact Yx50
  ·have tY:i=n:=by omega
   subst tY;have R8:=Zh (Row.Z4 HO.o);have TS:=HG.o.z;have Uu:=HG.o.Y8;go_wp2_with (first|with_reducible refine Zl Uu underlying173 ?_|(with_reducible refine Zs (cells:=(Qe 200 (ss:Int) (nt:Int) (tm:Int) (pk:Int) (oc:Int) a i q none 0 0 0 none 0 0)) TS ?_))
   refine Vr (v:= .agg (Qe 200 (ss:Int) (nt:Int) (tm:Int) (pk:Int) (oc:Int) a i q none 0 0 0 none 0 0)) ?_ rfl ?_
   ·exact results_cell_row Zr _ _ w 173 (Qe 200 (ss:Int) (nt:Int) (tm:Int) (pk:Int) (oc:Int) a i q none 0 0 0 none 0 0) (0,0) _ Zr (setRow_heap _ _ _ _ _ _ TS) underlying173 rfl X6
   refine⟨⟨_,rfl,?_⟩,Z0 HG.o.Za (Zq _) _⟩;rw[HX.o];have hr:TW wr ⟨⟨200,(ss:Int),(nt:Int),(tm:Int),(pk:Int),(oc:Int),U3 c 24 i,[],0,[]⟩,.slice a i q,.slice none 0 0,.slice none 0 0⟩:=⟨by show Row wr _ _ (U3 c 24 i).length _;rw[show(U3 c 24 i).length=i by unfold U3;rw[Te,List.length_range]];exact R8.o,Row.nil _ _,Row.nil _ _⟩;have OA:=TW.setRow hr TS (Qe 200 (ss:Int) (nt:Int) (tm:Int) (pk:Int) (oc:Int) a i q none 0 0 0 none 0 0);exact⟨_,_,_,rfl,OA.b,OA.g,OA.p⟩
def long(b:List UInt8):Nat:=at8 b 2*256+at8 b 3
def rJ{b:List UInt8}(h:4≤b.length):get b 2 2=long b:=by
 match b,h with
 | x0 :: x1 :: x2 :: x3 :: t,_=>
  have hw:within (x0 :: x1 :: x2 :: x3 :: t).length 2 2=true:=within_iff.2 ⟨by decide,by decide,by decide,by simp;omega⟩;unfold get;rw[ZU hw];simp[be,long,at8]
def Pn{b:List UInt8}{m p q:Nat}(h1:p+q≤m)(h2:4+m≤b.length)(hq:1≤q)(hq8:q≤8):get ((b.drop 4).take m) (p:Int) (q:Int)=get b ((p:Int)+4) (q:Int):=by
 have hl:((b.drop 4).take m).length=m:=by rw[SC,QG];omega
 have w1:within ((b.drop 4).take m).length (p:Int) (q:Int)=true:=within_iff.2 ⟨Zo,Zo,Zo,by rw[hl];omega⟩;have w2:within b.length ((p:Int)+4) (q:Int)=true:=within_iff.2 ⟨Zo,Zo,Zo,Zo⟩;unfold get;rw[ZU w1,ZU w2]
 congr 1
 have e1:((p:Int)+4).toNat=4+p:=by omega
 have e2:(p:Int).toNat=p:=by omega
 have e3:(q:Int).toNat=q:=by omega
 rw[e1,e2,e3,List.drop_take,List.drop_drop,List.take_take,Nat.min_eq_left Zo]
def AE{b:List UInt8}{n p q:Nat}(h1:p+q≤n)(h2:n≤b.length)(hq:1≤q)(hq8:q≤8):get (b.take n) (p:Int) (q:Int)=get b (p:Int) (q:Int):=by
 have hl:(b.take n).length=n:=by rw[SC];omega
 have w1:within (b.take n).length (p:Int) (q:Int)=true:=within_iff.2 ⟨Zo,Zo,Zo,by rw[hl];omega⟩;have w2:within b.length (p:Int) (q:Int)=true:=within_iff.2 ⟨Zo,Zo,Zo,Zo⟩;unfold get;rw[ZU w1,ZU w2]
 congr 1
 have e2:(p:Int).toNat=p:=by omega
 have e3:(q:Int).toNat=q:=by omega
 rw[e2,e3,List.drop_take,List.take_take,Nat.min_eq_left Zo]
def o_{c:List UInt8}{p:Nat}(h:p+4≤c.length):get c (p:Int) 4=get c (p:Int) 2*65536+get c ((p:Int)+2) 2:=by
 have w1:within c.length (p:Int) 4=true:=within_iff.2 ⟨by decide,by decide,Zo,Zo⟩;have w2:within c.length (p:Int) 2=true:=within_iff.2 ⟨by decide,by decide,Zo,Zo⟩;have w3:within c.length ((p:Int)+2) 2=true:=within_iff.2 ⟨by decide,by decide,Zo,Zo⟩;unfold get;rw[ZU w1,ZU w2,ZU w3];have e1:((p:Int)+2).toNat=p+2:=by omega
 have e2:(p:Int).toNat=p:=by omega
 rw[e1,e2]
 have hd:∃a0 a1 a2 a3 t,c.drop p=a0 :: a1 :: a2 :: a3 :: t:=by
  have hl:4≤(c.drop p).length:=by rw[QG];omega
  match c.drop p,hl with
  | a0 :: a1 :: a2 :: a3 :: t,_=>exact⟨a0,a1,a2,a3,t,rfl⟩
 obtain⟨a0,a1,a2,a3,t,hd⟩:=hd;have nA:c.drop (p+2)=a2 :: a3 :: t:=by rw[←List.drop_drop,hd];rfl
 rw[hd,nA];show be [a0,a1,a2,a3]=be [a0,a1]*65536+be [a2,a3];simp only[be,List.foldl];omega
def UZ(b:List UInt8)(k:Nat)(n least most:Int):(Rc×Nat)×Int:=
 if n<least∨most<n∨(long b:Int)≠V8 k n.toNat then((XJ,0),1)
 else if b.length<4+4*long b then((XJ,0),2)
 else((Xi k n.toNat ((b.drop 4).take (4*long b)),4+4*long b),0)
def Ky(b:List UInt8):(Rc×Nat)×Int:=
 if b.length<4 then((XJ,0),2)
 else if at8 b 0/32≠4 then((XJ,0),1)
 else if at8 b 1=200∨at8 b 1=201 then UZ b (at8 b 1) (at8 b 0%32:Nat) 0 15
 else if at8 b 1=203 then UZ b 203 (at8 b 0%32:Nat) 1 15
 else if at8 b 1=205∨at8 b 1=206 then
  (if at8 b 0%32≠1 then((XJ,0),4)
  else if at8 b 1=205 then UZ b 205 ((long b:Int)-2) 1 16 else UZ b 206 ((long b:Int)-2) 0 0)
 else((XJ,0),4)
def rF{b:List UInt8}{m p:Nat}(h1:p+24≤m)(h2:4+m≤b.length):blkR ((b.drop 4).take m) (p:Int)=Ns b (p+4):=by
 have g:∀d q:Nat,d+q≤24→1≤q→q≤8→get ((b.drop 4).take m) ((p:Int)+(d:Int)) (q:Int)=get b ((p+4+d:Nat):Int) (q:Int):=fun d q hd hq hq8=>by
  have h:=Pn (b:=b) (m:=m) (p:=p+d) (q:=q) Zo h2 hq hq8;rw[show((p:Int)+(d:Int))=((p+d:Nat):Int) by omega,h,show(((p+d:Nat):Int)+4)=((p+4+d:Nat):Int) by omega]
 have e0:get ((b.drop 4).take m) (p:Int) 4=get b ((p+4:Nat):Int) 4:=by
  have h:=Pn (b:=b) (m:=m) (p:=p) (q:=4) Zo h2 Zo Zo;have h:get ((b.drop 4).take m) (p:Int) 4=get b ((p:Int)+4) 4:=h;rw[h,show((p:Int)+4)=((p+4:Nat):Int) by omega]
 have e4:get ((b.drop 4).take m) ((p:Int)+4) 1=get b ((p+4+4:Nat):Int) 1:=g 4 1 Zo Zo Zo;have e5:get ((b.drop 4).take m) ((p:Int)+5) 3=get b ((p+4+5:Nat):Int) 3:=g 5 3 Zo Zo Zo;have e8:get ((b.drop 4).take m) ((p:Int)+8) 4=get b ((p+4+8:Nat):Int) 4:=g 8 4 Zo Zo Zo;have e12:get ((b.drop 4).take m) ((p:Int)+12) 4=get b ((p+4+12:Nat):Int) 4:=g 12 4 Zo Zo Zo;have e16:get ((b.drop 4).take m) ((p:Int)+16) 4=get b ((p+4+16:Nat):Int) 4:=g 16 4 Zo Zo Zo;have e20:get ((b.drop 4).take m) ((p:Int)+20) 4=get b ((p+4+20:Nat):Int) 4:=g 20 4 Zo Zo Zo;unfold blkR Ns;rw[e0,e4,e5,e8,e12,e16,e20]
def uP{b:List UInt8}{m:Nat}(hm:m=at8 b 0%32)(k0:at8 b 1=200∨at8 b 1=201)(hl:long b=V8 (at8 b 1) m)(hb:4+4*long b≤b.length):report b=Xi (at8 b 1) m ((b.drop 4).take (4*long b)):=by
 subst hm;rcases k0 with k|k
 ·have hw:long b=6+6*(at8 b 0%32):=by rw[hl,k];rfl
  have g:=fun(p q:Nat) (hp:p+q≤24) (h1:1≤q) (h8:q≤8)=>Pn (b:=b) (m:=4*long b) (p:=p) (q:=q) Zo hb h1 h8
  have g0:get ((b.drop 4).take (4*long b)) 0 4=get b 4 4:=g 0 4 Zo Zo Zo;have g4:get ((b.drop 4).take (4*long b)) 4 8=get b 8 8:=g 4 8 Zo Zo Zo;have g12:get ((b.drop 4).take (4*long b)) 12 4=get b 16 4:=g 12 4 Zo Zo Zo;have g16:get ((b.drop 4).take (4*long b)) 16 4=get b 20 4:=g 16 4 Zo Zo Zo;have g20:get ((b.drop 4).take (4*long b)) 20 4=get b 24 4:=g 20 4 Zo Zo Zo
  have WO:U3 ((b.drop 4).take (4*long b)) 24 (at8 b 0%32)=(List.range (at8 b 0%32)).map fun(i:Nat)=>Ns b (28+24*i):=by
   unfold U3;refine List.map_congr_left fun i hi=>?_
   rw[List.mem_range]at hi;rw[rF Zo hb]
   congr 1
   omega
  unfold report Xi;rw[k];simp[g0,g4,g12,g16,g20,WO]
 ·have hw:long b=1+6*(at8 b 0%32):=by rw[hl,k];rfl
  have g0:get ((b.drop 4).take (4*long b)) 0 4=get b 4 4:=Pn (b:=b) (m:=4*long b) (p:=0) (q:=4) Zo hb Zo Zo
  have WO:U3 ((b.drop 4).take (4*long b)) 4 (at8 b 0%32)=(List.range (at8 b 0%32)).map fun(i:Nat)=>Ns b (8+24*i):=by
   unfold U3;refine List.map_congr_left fun i hi=>?_
   rw[List.mem_range]at hi;rw[rF Zo hb]
   congr 1
   omega
  unfold report Xi;rw[k];simp[g0,WO]
def uO{b:List UInt8}(h1:4≤b.length)(h2:at8 b 0/32=4)(k0:at8 b 1=200∨at8 b 1=201):XP b=UZ b (at8 b 1) (at8 b 0%32:Nat) 0 15:=by
 have hg:=rJ h1
 have hr:UB (at8 b 1) (at8 b 0%32)=4+4*V8 (at8 b 1) (at8 b 0%32):=by
  unfold UB V8;rcases k0 with k|k <;> rw[k] <;> simp <;> omega
 have e1:right b=if 15<at8 b 0%32∨(get b 2 2+1)*4≠UB (at8 b 1) (at8 b 0%32)then(0,1)else if b.length<UB (at8 b 1) (at8 b 0%32)then(0,2)else(UB (at8 b 1) (at8 b 0%32),0):=by
  unfold right;rw[Z3 Zo,Z3 Zo,Z3 Zo]
 unfold XP UZ;rw[e1,hg,hr,Wi];by_cases Ni:15<at8 b 0%32∨(long b+1)*4≠4+4*V8 (at8 b 1) (at8 b 0%32)
 ·rw[ZU Ni,ZU (by dsimp only;decide),ZU Zo]
 ·rw[Z3 Ni,Z3 (show¬(((at8 b 0%32:Nat):Int)<0∨(15:Int)<((at8 b 0%32:Nat):Int)∨(long b:Int)≠(V8 (at8 b 1) (at8 b 0%32):Nat)) by omega)];have hl:long b=V8 (at8 b 1) (at8 b 0%32):=by omega
  by_cases hs:b.length<4+4*V8 (at8 b 1) (at8 b 0%32)
  ·rw[ZU hs,ZU (by dsimp only;decide),ZU (by rw[hl];exact hs)]
  ·rw[Z3 hs,Z3 (by dsimp only;decide),Z3 (by rw[hl];exact hs),uP rfl k0 hl (by rw[hl];omega),←hl]
def Lx{b:List UInt8}{n p:Nat}(hn:n≤b.length)(hp:p≤n):XL (b.take n) p=(List.range ((n-p)/4)).map fun(i:Nat)=>get b ((p+4*i:Nat):Int) 4:=by
 unfold XL;rw[SC,Nat.min_eq_left hn];refine List.map_congr_left fun i hi=>?_
 rw[List.mem_range]at hi;exact AE (p:=p+4*i) (q:=4) Zo hn Zo Zo
def I6{b:List UInt8}(hb:4+4*long b≤b.length):parts (b.take (4+4*long b)) 203=Xi 203 (long b) ((b.drop 4).take (4*long b))∧(2≤long b→parts (b.take (4+4*long b)) 205=Xi 205 (long b-2) ((b.drop 4).take (4*long b)))∧(long b=2→parts (b.take (4+4*long b)) 206=Xi 206 0 ((b.drop 4).take (4*long b))):=by
 refine⟨?_,fun h2=>?_,fun h2=>?_⟩
 ·have e:(XL (b.take (4+4*long b)) 4).map (fun(n:Nat)=>(n:Int))=TK ((b.drop 4).take (4*long b)) (long b):=by
   rw[Lx hb Zo,List.map_map,show(4+4*long b-4)/4=long b by omega];unfold TK;refine List.map_congr_left fun i hi=>?_
   rw[List.mem_range]at hi;have h:get ((b.drop 4).take (4*long b)) ((4*i:Nat):Int) 4=get b (((4*i:Nat):Int)+4) 4:=Pn (b:=b) (m:=4*long b) (p:=4*i) (q:=4) Zo hb Zo Zo;show((get b ((4+4*i:Nat):Int) 4:Nat):Int)=_;rw[show((4+4*i:Nat):Int)=((4*i:Nat):Int)+4 by omega,←h]
  unfold parts;rw[ZU rfl,e];rfl
 ·have g0:get ((b.drop 4).take (4*long b)) 0 4=get (b.take (4+4*long b)) 4 4:=by
   exact aX
  have g4:get ((b.drop 4).take (4*long b)) 4 4=get (b.take (4+4*long b)) 8 4:=by
   exact aY
  have e:(XL (b.take (4+4*long b)) 12).map (fun(n:Nat)=>(((n/65536:Nat):Int),((n%65536:Nat):Int)))=SP ((b.drop 4).take (4*long b)) (long b-2):=by
   rw[Lx hb Zo,List.map_map,show(4+4*long b-12)/4=long b-2 by omega];unfold SP;refine List.map_congr_left fun i hi=>?_
   rw[List.mem_range]at hi;have h4:=Pn (b:=b) (m:=4*long b) (p:=8+4*i) (q:=4) Zo hb Zo Zo;have hs:=o_ (c:=(b.drop 4).take (4*long b)) (p:=8+4*i) (by rw[SC,QG];omega);have Ow:=Mi ((b.drop 4).take (4*long b)) (((8+4*i:Nat):Int)+2);show(((get b ((12+4*i:Nat):Int) 4/65536:Nat):Int),((get b ((12+4*i:Nat):Int) 4%65536:Nat):Int))=_;have e12:((12+4*i:Nat):Int)=((8+4*i:Nat):Int)+4:=by omega
   have h4':get ((b.drop 4).take (4*long b)) ((8+4*i:Nat):Int) 4=get b (((8+4*i:Nat):Int)+4) 4:=h4;rw[e12,←h4',hs];generalize get ((b.drop 4).take (4*long b)) ((8+4*i:Nat):Int) 2=u;generalize get ((b.drop 4).take (4*long b)) (((8+4*i:Nat):Int)+2) 2=v at *;rw[show(u*65536+v)/65536=u by omega,show(u*65536+v)%65536=v by omega]
  unfold parts Xi;rw[Z3 Zd,e];simp only[g0,g4];rfl
 ·have g0:get ((b.drop 4).take (4*long b)) 0 4=get (b.take (4+4*long b)) 4 4:=by
   exact aX
  have g4:get ((b.drop 4).take (4*long b)) 4 4=get (b.take (4+4*long b)) 8 4:=by
   exact aY
  have e:XL (b.take (4+4*long b)) 12=[]:=by
   rw[Lx hb Zo,show(4+4*long b-12)/4=0 by omega];rfl
  unfold parts Xi;rw[Z3 Zd,e];simp only[g0,g4];rfl
def yq(b:List UInt8):YX b=Ky b:=by
 unfold Ky;by_cases h1:b.length<4
 ·rw[ZU h1];unfold YX;rw[ZU h1]
 rw[Z3 h1];by_cases h2:at8 b 0/32≠4
 ·rw[ZU h2];unfold YX;rw[Z3 h1,ZU h2]
 rw[Z3 h2];have hg:=rJ (b:=b) Zo
 have e0:YX b=if(Xk b).2=false then((XJ,0),4)else if(Xk b).1=200∨(Xk b).1=201 then XP b else
   if(Xz b (Xk b).1).2=false then((XJ,0),1)else if b.length<(Xz b (Xk b).1).1 then((XJ,0),2)else((parts (b.take (Xz b (Xk b).1).1) (Xk b).1,(Xz b (Xk b).1).1),0):=by
  unfold YX;rw[Z3 h1,Z3 h2]
 by_cases k0:at8 b 1=200∨at8 b 1=201
 ·have hi:Xk b=(at8 b 1,true):=by unfold Xk;rw[ZU Zo]
  rw[ZU k0,e0,hi,Z3 Zi,ZU k0];exact uO Zo Zo k0
 rw[Z3 k0];by_cases k3:at8 b 1=203
 ·have hi:Xk b=(203,true):=by unfold Xk;rw[ZU Zo,k3]
  have hlen:Xz b 203=((long b+1)*4,decide (1≤at8 b 0%32)&&decide (at8 b 0%32≤15)&&decide ((long b+1)*4=4+4*(at8 b 0%32))):=by unfold Xz;rw[hg];rfl
  rw[ZU k3,e0,hi,Z3 Zi,Z3 Zd,hlen];have vV:V8 203 (at8 b 0%32)=at8 b 0%32:=rfl;unfold UZ;rw[Wi,vV];by_cases Ni:at8 b 0%32<1∨15<at8 b 0%32∨long b≠at8 b 0%32
  ·rw[ZU (by simp only[Bool.and_eq_false_iff,decide_eq_false_iff_not];omega),ZU (show((at8 b 0%32:Nat):Int)<1∨(15:Int)<((at8 b 0%32:Nat):Int)∨(long b:Int)≠((at8 b 0%32:Nat):Int) by omega)]
  ·rw[Z3 (by simp only[Bool.and_eq_false_iff,decide_eq_false_iff_not];omega),Z3 (show¬(((at8 b 0%32:Nat):Int)<1∨(15:Int)<((at8 b 0%32:Nat):Int)∨(long b:Int)≠((at8 b 0%32:Nat):Int)) by omega)];dsimp only;rw[show(long b+1)*4=4+4*long b by omega];by_cases hs:b.length<4+4*long b
   ·rw[ZU hs,ZU hs]
   ·rw[Z3 hs,Z3 hs,(I6 Zo).1,show at8 b 0%32=long b by omega]
 rw[Z3 k3];by_cases k5:at8 b 1=205∨at8 b 1=206
 ·rw[ZU k5];have hi:Xk b=(at8 b 1,decide (at8 b 0%32=1)):=by unfold Xk;rw[Z3 Zo,ZU k5]
  by_cases hm:at8 b 0%32≠1
  ·rw[ZU hm,e0,hi,ZU (by simpa using hm)]
  rw[Z3 hm];have hm':at8 b 0%32=1:=by omega
  rw[e0,hi,hm',Z3 Zi,Z3 k0];rcases k5 with k|k
  ·have hlen:Xz b 205=((long b+1)*4,decide (16≤(long b+1)*4)&&decide ((long b+1)*4≤76)):=by unfold Xz;rw[hg];rfl
   rw[k,ZU rfl,hlen];unfold UZ;by_cases Ni:long b<3∨18<long b
   ·rw[ZU (by simp only[Bool.and_eq_false_iff,decide_eq_false_iff_not];omega),ZU (by rcases Ni with h|h;exact WQ Zo;exact WG (WQ Zo))]
   ·have hn:((long b:Int)-2).toNat=long b-2:=by omega
    have hw:V8 205 (long b-2)=long b:=by show 2+(long b-2)=long b;omega
    rw[Z3 (by simp only[Bool.and_eq_false_iff,decide_eq_false_iff_not];omega),hn,hw,Z3 (show¬((long b:Int)-2<1∨(16:Int)<(long b:Int)-2∨(long b:Int)≠((long b:Nat):Int)) by omega)];dsimp only;rw[show(long b+1)*4=4+4*long b by omega];by_cases hs:b.length<4+4*long b
    ·rw[ZU hs,ZU hs]
    ·rw[Z3 hs,Z3 hs,(I6 Zo).2.1 Zo]
  ·have hlen:Xz b 206=((long b+1)*4,decide ((long b+1)*4=12)):=by unfold Xz;rw[hg];rfl
   rw[k,Z3 (show¬(206:Nat)=205 by decide)];dsimp only;rw[hlen];unfold UZ;by_cases Ni:long b≠2
   ·rw[ZU (by simp only[decide_eq_false_iff_not];omega),ZU (by exact WG (WG (show(long b:Int)≠((2:Nat):Int) by omega)))]
   ·have hn:((long b:Int)-2).toNat=0:=by omega
    rw[Z3 (by simp only[decide_eq_false_iff_not];omega),hn,Z3 (show¬((long b:Int)-2<0∨(0:Int)<(long b:Int)-2∨(long b:Int)≠((V8 206 0:Nat):Int)) by show¬((long b:Int)-2<0∨(0:Int)<(long b:Int)-2∨(long b:Int)≠((2:Nat):Int));omega)];dsimp only;rw[show(long b+1)*4=4+4*long b by omega];by_cases hs:b.length<4+4*long b
    ·rw[ZU hs,ZU hs]
    ·rw[Z3 hs,Z3 hs,(I6 Zo).2.2 Zo]
 ·rw[Z3 k5];have hi:Xk b=(0,false):=by unfold Xk;rw[Z3 Zo,Z3 k5]
  rw[e0,hi,ZU rfl]
