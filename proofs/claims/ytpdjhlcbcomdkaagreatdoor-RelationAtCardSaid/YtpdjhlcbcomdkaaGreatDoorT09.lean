/- Part of a proof. -/
import Derived.Test.YtpdjhlcbcomdkaaGreatDoorT08
set_option linter.unusedVariables false
set_option linter.unusedSimpArgs false
set_option maxRecDepth 100000
set_option maxHeartbeats 16000000
open Go Go.Q Go.Qr Go.Proofs.Tryz
namespace Go.Proofs.By
open Go.RowKit Go.Proofs.Heap
open Go.Proofs.Rm (YD YF Room ZR Inv of PI of_lt IQ NR)
theorem Rs{P:Program}{ops:Array Oper}{o:Oper}{a:Act}{w:World}{K:Act→World→Prop}{Q:Exit→Act→World→Prop}{E':Prop}(LH:o.guard=none)(ty:TypeId)(x:Operand)(ho:o.op = .load ty x)
  (g:Nat) (hx:a.eval x = .pointer (some ⟨g,0,none⟩)) (t:TypeId) (cs:Array Value) (fr:Nat×Nat) (d:TypeDesc) (hg:w.heap[g]?=some (.cells cs t fr))
  (hu:P.underlying ty=some d) (hd:(match d with | .struct _ | .array _ _=>true|_=>false)=true) (hi:(P.info? ty).map (·.size)=some cs.size)
  (h:K (a.put o.dst (.agg cs)) w):if Region.wanted o (yielded ops a.tmps)=true then Oper.wp P o a w K Q else E':=by
 have hw:Region.wanted o (yielded ops a.tmps)=true:=by simp[Region.wanted,LH]
 rw[ZU hw];exact wp_load_row ty x ho g hx t cs fr d hg hu hd hi h
theorem tq{w:World}{cs:List Value}{T:Taken}(h:Ye w cs T):cs.toArray.size=22:=by rw[List.size_toArray];exact h.size
theorem PS{w:World}{cs:List Value}{T:Taken}(h:Ye w cs T):(Xf:Array Value).size=cs.toArray.size:=by rw[tq h];rfl
theorem PT{w:World}{cs:List Value}{T:Taken}(h:Ye w cs T):(prog.info? 100).map (·.size)=some cs.toArray.size:=by rw[tq h];kernel_rfl
theorem Ye.setRow{w:World}{cs:List Value}{T:Taken}(h:Ye w cs T){g:Nat}{c:Array Value}{f:Nat×Nat}(hg:w.heap[g]?=some (.cells c 100 f))(c':Array Value):Ye (w.setRow g c') cs T:=
 h.fr (Ti w g c') (fun k hk=>by have hk:k=g:=hk;subst hk;exact⟨_,_,_,hg,by decide,by decide,by decide,by decide,by decide,by decide,by decide⟩)
theorem qH(g b:Nat)(R:Room)(ep peer:Int)(P:J4)(d:EK)(cv ev pv:Value)(w:World)(hD:X8 w g b R ep)(hI:Inv R)(hl:∀n,(R.src n).ss.length≤1000000)(hP:Vy w P cv ev pv) :
  Calls prog 106 (Jl (some ⟨g,0,none⟩) peer (VJ P d cv ev pv).toArray) w fun e w'=>(∃cs:List Value,e = .returned (.agg cs.toArray)∧Ye w' cs (VW R ep peer P d))∧Below w w w':=by
 obtain⟨⟨ca,cc,rfl⟩,⟨ea,ec,rfl⟩,⟨pa,pc,rfl⟩⟩:=hP.form;obtain⟨n,O2,O3,hO⟩:∃(n:Nat) (O2:Int) (O3:Bool),of R P.Yl=((n:Int),O2,O3):=⟨(of R P.Yl).1.toNat,(of R P.Yl).2.1,(of R P.Yl).2.2,by rw[Int.toNat_of_nonneg (of_lt R P.Yl).1]⟩
 have HX:Hid (VW R ep peer P d=if(O3&&decide ((R.src n).own=peer))&&decide (O2=d.ZI)then{UD with XX:=⟨1,(n:Int),ep,0⟩,XQ:=P,Wx:=d}else Yi 5 0):=by
  show VW R ep peer P d=_;unfold VW owned;rw[hO];rfl
 have HTH:Hid (O3=true→(R.src n).there=true):=by
  show _→_;intro h3;obtain⟨m,_,h1,_,h2⟩:=PI (R:=R) (x:=P.Yl) (by rw[hO];exact h3);rw[hO]at h2;have h4:(n:Int)=(m:Int):=congrArg (·.1) h2;have h4:n=m:=by omega
  rw[h4];exact h1
 generalize VW R ep peer P d=X at *
 have zZ:=hD.cells.2.2.2
 have yH:((w.alloc (.cells (Jr P ca cc ea ec pa pc d) 97)).alloc (.cells Xf 100)).heap[w.heap.size]?=some (.cells (Jr P ca cc ea ec pa pc d) 97 (0,0)):=by
  rw[(Z' _ _).block _ AB];exact Z9 w _
 have hz:((w.alloc (.cells (Jr P ca cc ea ec pa pc d) 97)).alloc (.cells Xf 100)).heap[w.heap.size+1]?=some (.cells Xf 100 (0,0)):=by
  have h:=Z9 (w.alloc (.cells (Jr P ca cc ea ec pa pc d) 97)) (.cells Xf 100);have e:(w.alloc (.cells (Jr P ca cc ea ec pa pc d) 97)).heap.size=w.heap.size+1:=by show(w.heap.push _).size=_;rw[Ou]
  rw[e]at h;exact h
 have JW:Below w w ((w.alloc (.cells (Jr P ca cc ea ec pa pc d) 97)).alloc (.cells Xf 100)):=ZF (Z' w _) (Zw _) _;have BV:Hid (X8 ((w.alloc (.cells (Jr P ca cc ea ec pa pc d) 97)).alloc (.cells Xf 100)) g b R ep):=hD.below JW;have HP1:Hid (Vy ((w.alloc (.cells (Jr P ca cc ea ec pa pc d) 97)).alloc (.cells Xf 100)) P (.slice ca P.VF.length cc) (.slice ea P.ext.length ec) (.slice pa P.ZE.length pc)):=hP.below JW;have IM:=Zh yH;have HZ:=Zh hz;have RD:=Zh JW;clear hD hP yH hz JW;dsimp only[VJ];go_enter func106,ntmps106;go_upto_region 1 with fail
 generalize((w.alloc (.cells (Jr P ca cc ea ec pa pc d) 97)).alloc (.cells Xf 100))=w1 at *
 have COF:Hid (Calls prog 127 (Jj (some ⟨b,0,none⟩) P.Yl) w1.drew fun e w'=>e = .returned (.tuple (Q6 (n:Int) O2 O3))∧Below w1 w1 w'):=by
  have h:=IQ b R P.Yl w1.drew (BV.o.room.below (YI _ _).drew);rw[hO]at h;exact h.mono (fun _ _ ⟨q1,q2⟩=>⟨q1,(YI _ _).drew.trans q2⟩)
 have ZB:Hid (∀w',Below w1 w1 w'→w'.cell? ⟨g,0,none⟩=some (.pointer (some ⟨b,0,none⟩))∧w'.cell? ⟨w,4,none⟩=some (.int .u32 P.Yl)∧Below w1 w1 w'):=fun w' h=>
  ⟨(BV.o.below h).cells.1,by rw[cell_of ((h.block w (ZX IM.o)).trans IM.o) 4];rfl,h⟩
 clear hO;refine R5 ?_;refine wp_region_held_drew (S:=(fun w'=>w'.cell? ⟨g,0,none⟩=some (.pointer (some ⟨b,0,none⟩))∧w'.cell? ⟨w,4,none⟩=some (.int .u32 P.Yl)∧Below w1 w1 w')) X_ ?_ (fun X7=>?_)
 ·exact ZB.o _ (YI _ _).drew
 refine YA 0 (h:=YA 1 (h:=YA 2 (h:=YA 3 (h:=YA 4 (h:=YA 5 (h:=YA 6 (h:=?_)))))));refine R3 7 (h:=fun K hK=>?_);go_simp;refine COF.o.mono ?_;rintro e w2 ⟨rfl,Zb⟩;have Yg:=Zh Zb;clear Zb;go_wp2_with fail
 refine hK.out _ _ ?_ (fun XC=>?_)
 ·exact ZB.o _ Yg.o
 clear hK K;try simp only[Z_.pt]
 refine YA 8 (h:=YA 9 (h:=YA 10 (h:=YA 11 (h:=YA 12 (h:=YA 13 (h:=YA 14 (h:=?_)))))));refine wpAnyH_done X_ ?_ _;refine QZ ?_;have CSR:Hid (Calls prog 81 (Qj (some ⟨b,0,none⟩) (n:Int)) w2 fun e w'=>(∃(nm ow:Int) (a:Option Addr) (k c:Nat) (mu has:Bool),e = .returned (.tuple (Q0 (Qp nm ow a k c mu) has))∧has=(R.src n).there∧(has=true→ow=(R.src n).own))∧Below w2 w2 w'):=NR b R n w2 (BV.o.room.below Yg.o) hI hl;have cg2:=(ZB.o w2 Yg.o).1;clear X7 XC COF ZB;go_upto_region 3 with(go_at_call 81;refine CSR.o.mono ?_;rintro e w3 ⟨⟨nm,ow,a,k,c,mu,has,rfl,Eh,C_⟩,WT⟩;have WU:=Zh (Tr Yg WT);have HH:=Zh Eh;have LX:=Zh C_;clear WT Eh C_)
 have Va:Hid (Below w1 w1 (w3.alloc (.cells (Qp nm ow a k c mu) 108))):=ZF WU.o (Zw _) _;have cl:=cell_of ((WU.o.block w (ZX IM.o)).trans IM.o) 11;simp only[SN,Sy,R4]at cl;have aO:w.heap.size<w3.heap.size:=OB (ZX IM.o) WU.o.size;clear CSR Yg cg2;cases O3 with
 | false=>
  rw[Z3 Zi]at HX;exact Yx18
 | true=>
  have C_:ow=(R.src n).own:=LX.o (by rw[HH.o];exact HTH.o rfl);subst C_;clear LX HH HTH;by_cases hp:(R.src n).own=peer
  ·by_cases iU:O2=d.ZI
   ·subst hp;subst iU;rw[ZU Zi]at HX;go_upto_region 5 with fail
    clear cl aO;generalize w3.alloc (.cells (Qp nm (R.src n).own a k c mu) 108)=w4 at *
    have cg4:=(BV.o.below Va.o).cells.2.1;have Li:=(Va.o.block w (ZX IM.o)).trans IM.o;have Dd:=(Va.o.block (w.heap.size+1) (ZX HZ.o)).trans HZ.o;have HP4:=Zh (HP1.o.below Va.o);have hbw4:Below w w w4:=Tr RD Va.o;clear BV HP1 IM HZ Va WU RD hI hl;refine R5 ?_;refine wp_region_held_drew (S:=(fun w'=>w'.cell? ⟨g,1,none⟩=some (.int .i64 ep))) X_ ?_ (fun X7=>?_)
    ·exact cg4
    refine YA 0 (h:=YA 1 (h:=YA 2 (h:=YA 3 (h:=YA 4 (h:=YA 5 (h:=?_))))));refine R3 6 (h:=fun K hK=>?_);refine Rs Zr 97 (.tmp 5) Zr w Zr 97 (Jr P ca cc ea ec pa pc d) (0,0) _ Li underlying97 rfl X_ ?_;refine hK.out _ _ ?_ (fun XC=>?_)
    ·first|exact cg4|exact cg5
    clear hK K;try simp only[Z_.pt]
    refine YA 7 (h:=?_);refine R3 8 (h:=fun K hK=>?_);refine Sl Zr 100 (.tmp 6) (.tmp 56) Zr Zr (w.heap.size+1) (J0 1 (n:Int) ep 0 P ca cc ea ec pa pc d none 0 0 none 0 0 0) Zr Zr 100 _ Dd X_ X_ X_ ?_;have cg5:(w4.setRow (w.heap.size+1) (J0 1 (n:Int) ep 0 P ca cc ea ec pa pc d none 0 0 none 0 0 0)).cell? ⟨g,1,none⟩=some (.int .i64 ep):=by rw[World.cell?_of_block (w:=w4) (setRow_other w4 _ g _ Zo)];exact cg4
    refine hK.out _ _ ?_ (fun Vz=>?_)
    ·first|exact cg4|exact cg5
    clear hK K;try simp only[Z_.pt]
    refine wpAnyH_done X_ ?_ _;refine QZ ?_;go_wp2_with fail
    refine VD (v:= .agg (J0 1 (n:Int) ep 0 P ca cc ea ec pa pc d none 0 0 none 0 0 0)) ?_ rfl ?_
    ·exact results_cell_row Zr _ _ (w.heap.size+1) 100 (J0 1 (n:Int) ep 0 P ca cc ea ec pa pc d none 0 0 none 0 0 0) (0,0) _ Zr (setRow_heap w4.drew _ _ _ _ _ Dd) underlying100 rfl X_
    refine⟨⟨(J0 1 (n:Int) ep 0 P ca cc ea ec pa pc d none 0 0 none 0 0 0),rfl,?_⟩,Z0 hbw4.drew (J_ _) _⟩;rw[HX.o];have HT:Ye w4.drew (J0 1 (n:Int) ep 0 P ca cc ea ec pa pc d none 0 0 none 0 0 0) {UD with XX:=⟨1,(n:Int),ep,0⟩,XQ:=P,Wx:=d}:=⟨_,_,_,_,_,rfl,HP4.o.below (YI _ _).drew,YH.nil _,Row.nil _ _⟩;exact HT.setRow Dd _
   ·rw[Z3 (by simp[iU])]at HX;have hb:(O2 !=d.ZI)=true:=by rw[RH];exact iU
    have Zb:(O2==d.ZI)=false:=by rw[WM];exact iU
    subst hp;exact Yx18
  ·rw[Z3 (by simp[hp])]at HX;have hb:((R.src n).own !=peer)=true:=by rw[RH];exact hp
   have Zb:((R.src n).own==peer)=false:=by rw[WM];exact hp
   exact Yx18
theorem tZ:∀x:Fin 256,bits .and .u8 ((x.val:Nat):Int) 60=((x.val/4%16*4:Nat):Int):=by decide +kernel
theorem and_60(n:Nat)(hn:n<256):bits .and .u8 (n:Int) 60=((n/4%16*4:Nat):Int):=tZ ⟨n,hn⟩
def kO(d:EK):Value:= .agg (Jt d)
theorem wQ(v:Value)(b:List UInt8)(w:World)(hv:X5 w v b) :
  Calls prog 126 #[v] w fun e w'=>e = .returned (.tuple (Qo (Qd (Yz b).1.ZI (Yz b).1.key (Yz b).1.start (Yz b).1.frame) (Yz b).2))∧Below w w w':=by
 have hlen:=hv.len;have HV:Hid (∀w',Below w w w'→X5 w' v b):=fun w' h=>hv.below h
 have HE:Hid (Yz b=if b.length<4 then(Tn,2)else if at8 b 0/4%16≠0∨at8 b 0%4=3∨at8 b 1≠90 then(Tn,1)else(⟨(at8 b 0%4:Nat),decide (128≤at8 b 0),decide (at8 b 0/64%2=1),get b 2 2⟩,0)):=rfl;obtain⟨a,c,rfl,RV,-⟩:=id hv;clear hv;have Uj:=Z' w (.cells (Qd 0 false false 0) 81);have He:=Zh (HV.o _ Uj);generalize Yz b=X at *
 by_cases h1:b.length<4
 ·obtain rfl:X=(Tn,2):=by rw[HE.o,ZU h1]
  clear HE HV He;go_enter func126,ntmps126;go_wp2;exact VD (v:= .tuple (Qo (Qd 0 false false 0) 2)) (by simp[results,results126,go_sem]) rfl ⟨rfl,Uj⟩
 obtain⟨g,off,cap,e1,_,_,hc⟩:=RI (HV.o w (YI _ _)) Zo;cases e1;obtain⟨_,_,_,e2,_,_,hca⟩:=RI He.o Zo;cases e2;have d0:(w.alloc (.cells (Qd 0 false false 0) 81)).cell? ⟨g,off,none⟩=some (.int .u8 (at8 b 0:Int)):=hca 0 Zo;have d1:=hca 1 Zo;have l1:decide ((b.length:Int)<4)=false:=Wz Zo;have P7:=Xj b 0;have SF:=Xj b 1;have a60:=and_60 (at8 b 0) P7;have a3:=and_3 (at8 b 0) P7;clear hc hca;by_cases h2:at8 b 0/4%16≠0∨at8 b 0%4=3∨at8 b 1≠90
 ·obtain rfl:X=(Tn,1):=by rw[HE.o,Z3 h1,ZU h2]
  clear HE HV He;by_cases h3:at8 b 0/4%16≠0
  ·have q3:(((at8 b 0/4%16*4:Nat):Int)!=0)=true:=by rw[RH];omega
   clear h2 h3;generalize at8 b 0/4%16*4=y at *
   exact Yx68
  ·have hz:at8 b 0/4%16*4=0:=by omega
   rw[hz]at a60;by_cases h4:at8 b 0%4=3
   ·rw[h4]at a3;clear h2 h3 h4 hz;exact Yx68
   ·have q4:(((at8 b 0%4:Nat):Int)==3)=false:=by rw[WM];omega
    have q5:(((at8 b 1:Nat):Int)!=90)=true:=by rw[RH];omega
    clear h2 h3 h4 hz;generalize at8 b 0%4=y at *
    exact Yx68
 ·have CG:=NM _ b 2 2 _ He.o;have hn:get b 2 2<65536:=U7 b 2 2 2 Zd;have hz:at8 b 0/4%16*4=0:=by omega
  rw[hz]at a60;have q4:(((at8 b 0%4:Nat):Int)==3)=false:=by rw[WM];omega
  have q5:(((at8 b 1:Nat):Int)!=90)=false:=by rw[bne_eq_false_iff_eq];omega
  have a128:=rY (at8 b 0) P7;have a64:=and_64 (at8 b 0) P7
  obtain rfl:X=(⟨(at8 b 0%4:Nat),(((at8 b 0/128%2*128:Nat):Int)!=0),(((at8 b 0/64%2*64:Nat):Int)!=0),get b 2 2⟩,0):=by
   rw[HE.o,Z3 h1,Z3 h2]
   congr 2
   ·rw[Bool.eq_iff_iff,Sz,RH];omega
   ·rw[Bool.eq_iff_iff,Sz,RH];omega
  dsimp only;have nR:=Zh CG
  have ZB:Hid (∀w',Below w w w'→w'.cell? ⟨g,off,none⟩=some (.int .u8 (at8 b 0:Int))∧Below w w w'):=fun w' h=>by
   obtain⟨_,_,_,e,_,_,hc⟩:=RI (HV.o w' h) Zo;cases e;exact⟨hc 0 Zo,h⟩
  clear HE HV He h2 hz CG;have hy4:at8 b 0%4<4:=by omega
  have hbI:(0:Int)<(b.length:Int):=by omega
  have hbN:0<b.length:=by omega
  have hbZ:¬b.length=0:=by omega
  generalize get b 2 2=n at *
  generalize at8 b 0/128%2*128=y1 at *
  generalize at8 b 0/64%2*64=y2 at *
  generalize at8 b 0%4=y at *
  generalize b.length=N at *
  have hnw:IntKind.u16.wrap (n:Int)=(n:Int):=by rw[IntKind.wrap_u16];omega
  have hyw:IntKind.i64.wrap (y:Int)=(y:Int):=Te _ Zo;go_enter func126,ntmps126;go_wp2_with (go_at_call 155;refine nR.o.mono ?_;rintro e w' ⟨rfl,rfl⟩)
  go_region_held3 (fun w'=>w'.cell? ⟨g,off,none⟩=some (.int .u8 (at8 b 0:Int))∧Below w w w') (first|exact ZB.o _ (by first|exact(Z' w _).drew|with_reducible assumption|exact Below.drew WQ|exact Below.setCell WQ Zi _|exact Below.setCell (Below.drew WQ) Zi _)|go_keep) (first|fail)
  go_wp2;exact VD (v:= .tuple (Qo (Qd y ((y1:Int)!=0) ((y2:Int)!=0) n) 0)) (by simp[results,results126,go_sem,hnw]) rfl ⟨rfl,(Z' w _).drew⟩
end Go.Proofs.By
namespace Go.Proofs.By
open Go.RowKit Go.Proofs.Heap
theorem vE(v:Value)(b:List UInt8)(w:World)(hv:X5 w v b) :
  Calls prog 125 #[v] w fun e w'=>(∃a,e = .returned (.tuple #[a,.int .i64 (YM b).2])∧NF w' a (YM b).1)∧Below w w w':=by
 by_cases h:(looks b).2=0
 ·exact rq v b w hv h
 ·exact vF v b w hv h
def zH(b:List UInt8):Ev×Int:=if(YM b).2≠0 then(.none,(YM b).2)else if(Yz (YM b).1.ZE).2≠0 then(.none,(Yz (YM b).1.ZE).2)else(.XT (YM b).1 (Yz (YM b).1.ZE).1,0)
theorem Gn{b:List UInt8}(h1:¬512<b.length)(h2:¬b.length<2)(h3:¬(192≤at8 b 1∧at8 b 1≤223)):XY b=zH b:=by
 unfold XY zH;rw[Z3 h1,Z3 h2,Z3 h3]
theorem K8(v:Value)(b:List UInt8)(w:World)(hv:X5 w v b)(h3:¬(192≤at8 b 1∧at8 b 1≤223)) :
  Calls prog 105 #[v] w fun e w'=>(∃a,e = .returned (.tuple #[a,.int .i64 (XY b).2])∧tC w' a (XY b).1)∧Below w w w':=by
 have hlen:=hv.len;by_cases h1:512<b.length
 ·have HX:Hid (XY b=(.none,5)):=by show _=_;unfold XY;rw[ZU h1]
  exact Yx74
 by_cases h2:b.length<2
 ·have HX:Hid (XY b=(.none,2)):=by show _=_;unfold XY;rw[Z3 h1,ZU h2]
  exact Yx74
 rw[Gn h1 h2 h3];have HC:=Zh (vE v b w hv);have HX:Hid (zH b=if(YM b).2≠0 then(.none,(YM b).2)else if(Yz (YM b).1.ZE).2≠0 then(.none,(Yz (YM b).1.ZE).2)else(.XT (YM b).1 (Yz (YM b).1.ZE).1,0)):=rfl;obtain⟨g,off,c,rfl,RV,yD,WX⟩:=RI hv Zo;have d1:=WX 1 Zo;clear WX hv RV yD;have hbI:(1:Int)<(b.length:Int):=by omega
 have hbN:1<b.length:=by omega
 generalize zH b=X at *
 generalize YM b=Y at *
 obtain⟨P,er⟩:=Y;dsimp only at HC HX;have dH:=fun(x:Value) (w:World)=>run_makeInterface (P:=prog) w 97 x X_
 have hk:at8 b 1<192∨223<at8 b 1:=by omega
 generalize at8 b 1=kd at *
 go_enter func105,ntmps105;rcases hk with hk|hk
 ·have l1:decide ((192:Int)≤(kd:Int))=false:=Wz Zo;exact Yx10
 ·have l1:decide ((192:Int)≤(kd:Int))=true:=Ww Zo;have l2:decide ((kd:Int)≤223)=false:=Wz Zo;exact Yx10
open Go.Proofs.Rm (YD YF Room ZR Inv Y_ Tv)
theorem Mk{P:Program}(w:World)(t xt:TypeId)(v:Value)(d:TypeDesc)(hu:P.underlying t=some d)(hd:(match d with | .interface _=>false|_=>true)=true):(Instr.typeAssert (.iface t v) xt t true).run P w = .ok (.tuple #[v,.bool true]) w:=by
 unfold Instr.typeAssert;simp only[Sem.run_bind,run_underlying hu w,Result.andThen_ok];cases d <;> simp_all
theorem Gl{b:List UInt8}(h3:¬(192≤at8 b 1∧at8 b 1≤223))(h:(XY b).2=0):∃p d,(XY b).1 = .XT p d:=by
 by_cases h1:512<b.length
 ·unfold XY at h;rw[ZU h1]at h;cases h
 by_cases h2:b.length<2
 ·unfold XY at h;rw[Z3 h1,ZU h2]at h;cases h
 rw[Gn h1 h2 h3]at h ⊢;unfold zH at h ⊢;by_cases h4:(YM b).2≠0
 ·rw[ZU h4]at h;exact absurd h h4
 rw[Z3 h4]at h ⊢;by_cases h5:(Yz (YM b).1.ZE).2≠0
 ·rw[ZU h5]at h;exact absurd h h5
 rw[Z3 h5];exact⟨_,_,rfl⟩
theorem Fj(g b:Nat)(R:Room)(ep kd peer src ly:Int)(nm:ByteArray)(sa ba:Option Addr)(sl sc bl bc:Nat)(l:List UInt8)(w:World)(hD:X8 w g b R ep)(hI:Inv R)(hl:∀n,(R.src n).ss.length≤1000000)(hv:X5 w (.slice ba bl bc) l)(h3:¬(192≤at8 l 1∧at8 l 1≤223)) :
  Calls prog 76 (Qi (some ⟨g,0,none⟩) (Qa kd peer src ly nm sa sl sc ba bl bc)) w fun e w'=>(∃cs:List Value,e = .returned (.agg cs.toArray)∧Ye w' cs (YJ R ep peer l).1.1)∧X8 w' g b (YJ R ep peer l).1.2 (YJ R ep peer l).2∧Fr w (fun k=>k=b∨k=g) w w':=by
 have HX:Hid (YJ R ep peer l=if(XY l).2≠0 then((Yi 3 (XY l).2,R),ep)else if !Y_ R peer then((Yi 4 0,R),ep)else match(XY l).1 with
  | .XT p d=>((VW R ep peer p d,R),ep)
  | .Yb l=>((Uq (ep+1) l (ZA peer l R).1.1 (ZA peer l R).2,(ZA peer l R).1.2),ep+1)
  | .none=>((Uq (ep+1) [] [] 0,R),ep+1)):=rfl
 have LY:=Zh (Gl (b:=l) h3);have zZ:=hD.cells.2.2.2
 have yH:((w.alloc (.cells (Qa kd peer src ly nm sa sl sc ba bl bc) 32)).alloc (.cells Xf 100)).heap[w.heap.size]?=some (.cells (Qa kd peer src ly nm sa sl sc ba bl bc) 32 (0,0)):=by
  rw[(Z' _ _).block _ AB];exact Z9 w _
 have hz:((w.alloc (.cells (Qa kd peer src ly nm sa sl sc ba bl bc) 32)).alloc (.cells Xf 100)).heap[w.heap.size+1]?=some (.cells Xf 100 (0,0)):=by
  exact Yx49
 have JW:Below w w ((w.alloc (.cells (Qa kd peer src ly nm sa sl sc ba bl bc) 32)).alloc (.cells Xf 100)):=ZF (Z' w _) (Zw _) _;have bD:=Zh hD;have BV:Hid (X8 ((w.alloc (.cells (Qa kd peer src ly nm sa sl sc ba bl bc) 32)).alloc (.cells Xf 100)) g b R ep):=hD.below JW;have CS:=Zh (K8 _ l ((w.alloc (.cells (Qa kd peer src ly nm sa sl sc ba bl bc) 32)).alloc (.cells Xf 100)) (hv.below JW) h3);have IM:=Zh yH;have HZ:=Zh hz;have RD:=Zh JW;clear hD hv yH hz JW h3;generalize YJ R ep peer l=X at *
 generalize XY l=Y at *
 obtain⟨ev,er⟩:=Y;dsimp only at HX LY CS;go_enter func76,ntmps76;go_upto_region 2 with(go_at_call 105;refine CS.o.mono ?_;rintro e w2 ⟨⟨a,rfl,Kt⟩,Zb⟩;have zW:=Zh Kt;have Yg:=Zh Zb;clear Kt Zb)
 clear CS;generalize((w.alloc (.cells (Qa kd peer src ly nm sa sl sc ba bl bc) 32)).alloc (.cells Xf 100))=w1 at *
 have ZB:Hid (∀w',Below w1 w1 w'→w'.cell? ⟨g,0,none⟩=some (.pointer (some ⟨b,0,none⟩))∧w'.cell? ⟨w,1,none⟩=some (.int .i64 peer)):=fun w' h=>
  ⟨(BV.o.below h).cells.1,by rw[cell_of ((h.block w (ZX IM.o)).trans IM.o) 1];rfl⟩
 have UF:Hid (∀w' cs T,Below w w w'→Ye w' cs T→X=((T,R),ep)→(∃cs':List Value,Ending.returned (.agg cs.toArray) = .returned (.agg cs'.toArray)∧Ye w' cs' X.1.1)∧X8 w' g b X.1.2 X.2∧Fr w (fun k=>k=b∨k=g) w w'):=fun w' cs T h1 h2 h3=>by
  rw[h3];exact⟨⟨cs,rfl,h2⟩,bD.o.below h1,Fr.Z6 _ h1⟩
 by_cases RM:er=0
 ·subst RM;rw[Z3 Zi]at HX;obtain⟨p,d,hpd⟩:=LY.o rfl;subst hpd;dsimp only at HX;have HJ:=Zh (Tv b R peer w2.drew ((BV.o.room.below Yg.o).below (YI _ _).drew));go_upto_region 4 with fail
  refine R5 ?_;refine wp_region_held_drew (S:=(fun w'=>w'.cell? ⟨g,0,none⟩=some (.pointer (some ⟨b,0,none⟩))∧w'.cell? ⟨w,1,none⟩=some (.int .i64 peer))) X_ ?_ (fun X7=>?_)
  ·exact ZB.o _ Yg.o.drew
  refine YA 0 (h:=YA 1 (h:=YA 2 (h:=YA 3 (h:=YA 4 (h:=YA 5 (h:=?_))))));refine R3 6 (h:=fun K hK=>?_);go_simp;refine HJ.o.mono ?_;rintro e w' ⟨rfl,rfl⟩;go_wp2_with fail
  refine hK.out _ _ ?_ (fun XC=>?_)
  ·exact ZB.o _ Yg.o.drew
  clear hK K;try simp only[Z_.pt]
  refine YA 7 (h:=?_);refine wpAnyH_done X_ ?_ _;refine QZ ?_;clear X7 XC ZB;have WU:Hid (Below w1 w1 w2.drew):=Yg.o.drew;have jv:Hid (tC w2.drew a (.XT p d)):=zW.o.below (YI _ _).drew;clear Yg zW HJ;generalize w2.drew=w3 at *
  clear w2;by_cases hj:Y_ R peer=true
  ·rw[hj,Z3 Zi]at HX;rw[hj];have hta:=fun(w:World) (v:Value)=>Mk (P:=prog) w 97 188 v _ underlying97 rfl
   obtain⟨cv,ev,pv,ha,hP⟩:=jv.o;obtain⟨⟨ca,cc,Hi⟩,⟨ea,ec,hevv⟩,⟨pa,pc,My⟩⟩:=hP.form;subst Hi;subst hevv;subst My;dsimp only[VJ]at ha;subst ha;have hxr:=Z9 w3 (.cells (Jr p ca cc ea ec pa pc d) 97);have Va:Hid (Below w1 w1 (w3.alloc (.cells (Jr p ca cc ea ec pa pc d) 97))):=ZF WU.o (Zw _) _;have CM:=Zh (qH g b R ep peer p d _ _ _ (w3.alloc (.cells (Jr p ca cc ea ec pa pc d) 97)) (BV.o.below Va.o) hI hl (hP.below (Z' _ _)));have Li:=cell_of ((WU.o.block w (ZX IM.o)).trans IM.o) 1;simp only[SN,Sy,R4]at Li;have aO:w.heap.size<w3.heap.size:=OB (ZX IM.o) WU.o.size;clear jv hP;dsimp only[VJ]at CM;go_wp2_with (first|(with_reducible refine Zl hxr underlying97 ?_)|(go_at_call 106;refine CM.o.mono ?_;rintro e w5 ⟨⟨cs,rfl,Pp⟩,NI⟩;have P5:=Zh (Tr Va NI);have Ip:=(P5.o.block (w.heap.size+1) (ZX HZ.o)).trans HZ.o;have hi:=PT Pp;have hold:=PS Pp;have OY:=Pp.one;have J1:=Zh Pp;clear Pp NI)|(with_reducible refine ZT 100 (.tmp 4) (.tmp 46) rfl ?_;refine VY rfl 100 (.tmp 4) (.tmp 46) rfl rfl (w.heap.size+1) cs.toArray rfl rfl 100 Xf Ip hi hold OY ?_))
   refine VD (v:= .agg cs.toArray) ?_ rfl ?_
   ·exact kx
   exact UF.o _ cs _ (Z0 (Tr RD P5.o) (J_ _) _) (J1.o.setRow Ip _) HX.o
  ·exact Yx38
 ·exact Yx34
end Go.Proofs.By
namespace Go.Proofs.By
open Go.RowKit Go.Proofs.Heap
open Go.Proofs.Rm (YD YF Room ZR Inv WG YN jk ER)
open Go.Proofs.ND (Xu)
open Go.Proofs.Mem
def Fa(g b:Nat)(R:Room)(ep:Int)(o:Rm.Op)(l:List UInt8)(w:World)(e:Ending)(w':World):Prop:=
 ∃sv,(∃cs:List Value,e = .returned (.agg cs.toArray)∧Ye w' cs (take R ep o l sv).1.1)∧X8 w' g b (take R ep o l sv).1.2 (take R ep o l sv).2∧Fr w (fun k=>k=b∨k=g) w w'
theorem r7{R:Room}{o:Rm.Op}{sv:Value}(h:(WG R o sv).2≠0):(WG R o sv).1.2=R:=by
 unfold WG at h ⊢;split
 ·rfl
 ·rename_i h1;rw[Z3 h1]at h;exact absurd rfl h
theorem X8.ne{w:World}{g b:Nat}{R:Room}{ep:Int}(h:X8 w g b R ep):g≠b:=by
 intro e;obtain⟨c,hc,_⟩:=h.room.cells;rw[←e,h.Y8]at hc;injection hc with hc
 injection hc with _ hc
 exact absurd hc Zd
theorem X8.setRow{w:World}{g b:Nat}{R:Room}{ep:Int}(h:X8 w g b R ep){X:Nat}{c:Array Value}{f:Nat×Nat}(hg:w.heap[X]?=some (.cells c 100 f))(hXg:g≠X)(hXb:b≠X)(c':Array Value):X8 (w.setRow X c') g b R ep:=
 ⟨by rw[setRow_other w X g _ hXg];exact h.Y8,h.room.fr (Ti w X c') (Zw _) (fun e=>hXb e) (fun k _ _ hk=>by have hk:k=X:=hk;rw[hk,hg];intro h;injection h with h;injection h with _ h;exact absurd h Zd)⟩
theorem jZ(g b:Nat)(R:Room)(ep kd p n q:Int)(nm:List UInt8)(ss:List Int)(sa ba:Option Addr)(sc bl bc:Nat)(l:List UInt8)(w:World)(hD:X8 w g b R ep)(hI:Inv R)(hT:Xu w)(h0:0≤ep)(h9:ep<1000000000)
  (hn:nm.length<9223372036854775807) (hs:XM w (.slice sa ss.length sc) ss.length (YN ss))
  (hdg:kd=1→∀w1,Below w w w1→Calls prog 76 (Qi (some ⟨g,0,none⟩) (Qa kd p n q (str nm) sa ss.length sc ba bl bc)) w1 fun e w'=>(∃cs:List Value,e = .returned (.agg cs.toArray)∧Ye w' cs (YJ R ep p l).1.1)∧X8 w' g b (YJ R ep p l).1.2 (YJ R ep p l).2∧Fr w1 (fun k=>k=b∨k=g) w1 w') :
  Calls prog 44 (Qi (some ⟨g,0,none⟩) (Qa kd p n q (str nm) sa ss.length sc ba bl bc)) w (Fa g b R ep ⟨kd,p,n,q,nm,ss⟩ l w):=by
 have HX:Hid (∀sv,take R ep ⟨kd,p,n,q,nm,ss⟩ l sv=if kd=1 then YJ R ep p l else if(WG R ⟨kd,p,n,q,nm,ss⟩ sv).2≠0 then((Yi 6 (WG R ⟨kd,p,n,q,nm,ss⟩ sv).2,R),ep)else((Uq (ep+1) [] (WG R ⟨kd,p,n,q,nm,ss⟩ sv).1.1 0,(WG R ⟨kd,p,n,q,nm,ss⟩ sv).1.2),ep+1)):=fun sv=>rfl
 have zZ:=hD.cells.2.2.2;have WX:=hD.room.lt;have uD:=hD.ne
 have yH:((w.alloc (.cells (Qa kd p n q (str nm) sa ss.length sc ba bl bc) 32)).alloc (.cells Xf 100)).heap[w.heap.size]?=some (.cells (Qa kd p n q (str nm) sa ss.length sc ba bl bc) 32 (0,0)):=by
  rw[(Z' _ _).block _ AB];exact Z9 w _
 have hz:((w.alloc (.cells (Qa kd p n q (str nm) sa ss.length sc ba bl bc) 32)).alloc (.cells Xf 100)).heap[w.heap.size+1]?=some (.cells Xf 100 (0,0)):=by
  have h:=Z9 (w.alloc (.cells (Qa kd p n q (str nm) sa ss.length sc ba bl bc) 32)) (.cells Xf 100);exact Yx110
 have JW:Below w w ((w.alloc (.cells (Qa kd p n q (str nm) sa ss.length sc ba bl bc) 32)).alloc (.cells Xf 100)):=ZF (Z' w _) (Zw _) _;have BV:Hid (X8 ((w.alloc (.cells (Qa kd p n q (str nm) sa ss.length sc ba bl bc) 32)).alloc (.cells Xf 100)) g b R ep):=hD.below JW;have IM:=Zh yH;have HZ:=Zh hz;have RD:=Zh JW
 have UF:Hid (∀w2 cs (T:(Taken×Room)×Int) sv,Fr ((w.alloc (.cells (Qa kd p n q (str nm) sa ss.length sc ba bl bc) 32)).alloc (.cells Xf 100)).heap.size (fun k=>k=b∨k=g) ((w.alloc (.cells (Qa kd p n q (str nm) sa ss.length sc ba bl bc) 32)).alloc (.cells Xf 100)) w2→Ye w2 cs T.1.1→X8 w2 g b T.1.2 T.2→take R ep ⟨kd,p,n,q,nm,ss⟩ l sv=T→Fa g b R ep ⟨kd,p,n,q,nm,ss⟩ l w (.returned (.agg cs.toArray)) (w2.setRow (w.heap.size+1) cs.toArray)):=fun w2 cs T sv h1 h2 h3 h4=>by
  have TY:=(h1.block (w.heap.size+1) (ZX hz) Zo).trans hz;refine⟨sv,⟨cs,rfl,by rw[h4];exact h2.setRow TY _⟩,by rw[h4];exact h3.setRow TY Zo Zo _,?_⟩;exact Lz ((Fr.Z6 _ JW).trans (h1.mono JW.size (fun _ _ h=>h))) (J_ _) _
 by_cases hk:kd=1
 ·have CD:=Zh (hdg hk _ JW);have BZ:Hid (take R ep ⟨kd,p,n,q,nm,ss⟩ l (.slice none 0 0)=YJ R ep p l):=by show _=_;rw[HX.o,ZU hk]
  subst hk;clear HX hdg hD hT hs yH hz JW;generalize YJ R ep p l=X at *
  go_enter func44,ntmps44;go_wp2_with (first|(go_at_call 76;refine CD.o.mono ?_;rintro e w2 ⟨⟨cs,rfl,Pp⟩,oh,uA⟩;have Ip:=(uA.block (w.heap.size+1) (ZX HZ.o) Zo).trans HZ.o;have hi:=PT Pp;have hold:=PS Pp;have OY:=Pp.one;have J1:=Zh Pp;have iG:=Zh oh;have wZ:=Zh uA;clear Pp oh uA)|(with_reducible refine ZT 100 (.tmp 4) (.tmp 12) rfl ?_;refine VY rfl 100 (.tmp 4) (.tmp 12) rfl rfl (w.heap.size+1) cs.toArray rfl rfl 100 Xf Ip hi hold OY ?_))
  refine VD (v:= .agg cs.toArray) ?_ rfl ?_
  ·exact kx
  exact UF.o _ cs _ _ wZ.o J1.o iG.o BZ.o
 ·have BZ:Hid (∀sv,take R ep ⟨kd,p,n,q,nm,ss⟩ l sv=if(WG R ⟨kd,p,n,q,nm,ss⟩ sv).2≠0 then((Yi 6 (WG R ⟨kd,p,n,q,nm,ss⟩ sv).2,R),ep)else((Uq (ep+1) [] (WG R ⟨kd,p,n,q,nm,ss⟩ sv).1.1 0,(WG R ⟨kd,p,n,q,nm,ss⟩ sv).1.2),ep+1)):=fun sv=>by rw[HX.o,Z3 hk]
  have CD:=Zh (jk b R ⟨kd,p,n,q,nm,ss⟩ sa ba sc bl bc ((w.alloc (.cells (Qa kd p n q (str nm) sa ss.length sc ba bl bc) 32)).alloc (.cells Xf 100)).drew (BV.o.room.below (YI _ _).drew) hI (Utf8Tabs_below hT JW.drew) hn (hs.below JW.drew));have iT:(kd==1)=false:=by rw[WM];exact hk
  dsimp only at CD;clear HX hdg hD hT hs yH hz JW;generalize hdo:WG R ⟨kd,p,n,q,nm,ss⟩=DO at *
  go_enter func44,ntmps44;go_upto_region 3 with fail
  generalize((w.alloc (.cells (Qa kd p n q (str nm) sa ss.length sc ba bl bc) 32)).alloc (.cells Xf 100))=w1 at *
  have cg1:=BV.o.cells.1;have SF:=IM.o;refine R5 ?_;refine wp_region_held_drew (S:=(fun w'=>w'.cell? ⟨g,0,none⟩=some (.pointer (some ⟨b,0,none⟩)))) X_ ?_ (fun X7=>?_)
  ·exact cg1
  refine YA 0 (h:=YA 1 (h:=YA 2 (h:=YA 3 (h:=?_))));refine R3 4 (h:=fun K hK=>?_);refine Rs Zr 32 (.tmp 3) Zr w Zr 32 (Qa kd p n q (str nm) sa ss.length sc ba bl bc) (0,0) _ SF underlying32 rfl X_ ?_;refine hK.out _ _ ?_ (fun XC=>?_)
  ·first|exact cg2|exact cg1
  clear hK K;try simp only[Z_.pt]
  refine R3 5 (h:=fun K hK=>?_);go_simp;refine CD.o.mono ?_;rintro e w2 ⟨v,sv,rfl,SX,Xn,Wm⟩;rw[hdo]at SX Xn;try rw[hdo]
  obtain⟨va,vc,hv,-⟩:=id SX;subst hv;have Hu:=Zh (BZ.o sv);have HDOR:Hid ((DO sv).2≠0→(DO sv).1.2=R):=by rw[←hdo];exact r7
  have wZ:Hid (Fr w1 (fun k=>k=b∨k=g) w1 w2):=(Fr.Z6 _ (YI w1 w1).drew).trans (Wm.mono (Zw _) (fun _ _ h=>WO h));have iG:Hid (X8 w2 g b (DO sv).1.2 ep):=⟨(Wm.block g (by have h:=BV.o.cells.2.2.2;exact h) uD).trans BV.o.Y8,Xn⟩;have EL:=Zh SX;have cg2:=iG.o.cells.1;clear SX Xn Wm CD;generalize(DO sv).1.1.length=vn at *
  go_wp2_with fail
  refine hK.out _ _ ?_ (fun Vz=>?_)
  ·first|exact cg2|exact cg1
  clear hK K;try simp only[Z_.pt]
  refine YA 6 (h:=YA 7 (h:=YA 8 (h:=YA 9 (h:=YA 10 (h:=?_)))));refine wpAnyH_done X_ ?_ _;refine QZ ?_;clear X7 XC Vz;by_cases he:(DO sv).2=0
  ·rw[he];rw[Z3 (by simp[he])]at Hu;have TN:((Qm 0 0 0 0 false 0 0 0 0 none 0 0 false 0 none 0 0 none 0 0 0 0 false false 0 none 0 0 va vn vc 0):List Value).length=22:=rfl;have CC:=Zh (H' g (.pointer (some ⟨b,0,none⟩)) ep (Qm 0 0 0 0 false 0 0 0 0 none 0 0 false 0 none 0 0 none 0 0 0 0 false false 0 none 0 0 va vn vc 0) w2 iG.o.Y8 h0 h9 rfl X_);clear TN;have HTK2:Hid (Ye w2 ((((Qm 0 0 0 0 false 0 0 0 0 none 0 0 false 0 none 0 0 none 0 0 0 0 false false 0 none 0 0 va vn vc 0):List Value).set 0 (.int .i64 2)).set 2 (.int .i64 (ep+1))) (Uq (ep+1) [] (DO sv).1.1 0)):=⟨_,_,_,_,_,rfl,Vy.nil _,YH.nil _,EL.o⟩;have bz:=Zh iG.o.apart;generalize RV:((((Qm 0 0 0 0 false 0 0 0 0 none 0 0 false 0 none 0 0 none 0 0 0 0 false false 0 none 0 0 va vn vc 0):List Value).set 0 (.int .i64 2)).set 2 (.int .i64 (ep+1)))=cs at *
   have BU:=Zh RV;clear RV;go_wp2_with (first|(go_at_call 79;refine CC.o.mono ?_;rintro e w5 ⟨rfl,hg5,p_⟩;have GH:Hid (Fr w1 (fun k=>k=b∨k=g) w1 w5):=wZ.o.trans (p_.mono wZ.o.size (fun _ _ h=>WB h));have Ip:=(GH.o.block (w.heap.size+1) (ZX HZ.o) Zo).trans HZ.o;have J1:Hid (Ye w5 cs (Uq (ep+1) [] (DO sv).1.1 0)):=HTK2.o.fr p_ (fun k hk=>bz.o k (WB hk));have HD5:Hid (X8 w5 g b (DO sv).1.2 (ep+1)):=⟨hg5,iG.o.room.fr p_ (Zw _) (fun h=>uD (Eq.symm h)) (fun k c fr hk=>bz.o.ne Zi k c fr (WB hk))⟩;have hi:=PT J1.o;have hold:=PS J1.o;have OY:=J1.o.one;clear hg5 p_ CC)|(with_reducible refine ZT 100 (.tmp 4) (.tmp 29) rfl ?_;refine VY rfl 100 (.tmp 4) (.tmp 29) rfl rfl (w.heap.size+1) cs.toArray rfl rfl 100 Xf Ip hi hold OY ?_))
   refine VD (v:= .agg cs.toArray) ?_ rfl ?_
   ·exact kx
   exact UF.o _ cs _ _ GH.o J1.o HD5.o Hu.o
  ·rw[ZU he]at Hu;have hb:((DO sv).2 !=0)=true:=by rw[RH];exact he
   have Zb:((DO sv).2==0)=false:=by rw[WM];exact he
   have HDR:Hid (X8 w2 g b R ep):=by have h:=iG.o;rw[HDOR.o he]at h;exact h
   clear iG;go_wp2_with (first|(go_at_call 78;refine(PO 6 (DO sv).2 _).mono ?_;rintro e w5 ⟨⟨cs,rfl,Pp⟩,NI⟩;have GH:Hid (Fr w1 (fun k=>k=b∨k=g) w1 w5):=wZ.o.trans (Fr.Z6 _ (NI.mono wZ.o.size));have Ip:=(GH.o.block (w.heap.size+1) (ZX HZ.o) Zo).trans HZ.o;have HD5:=Zh (HDR.o.below NI);have hi:=PT Pp;have hold:=PS Pp;have OY:=Pp.one;have J1:=Zh Pp;clear Pp NI)|(with_reducible refine ZT 100 (.tmp 4) (.tmp 25) rfl ?_;refine VY rfl 100 (.tmp 4) (.tmp 25) rfl rfl (w.heap.size+1) cs.toArray rfl rfl 100 Xf Ip hi hold OY ?_))
   refine VD (v:= .agg cs.toArray) ?_ rfl ?_
   ·exact kx
   exact UF.o _ cs _ _ GH.o J1.o HD5.o Hu.o
structure Ow where
 bad:Int
 XA:Int
 unknown:Int
 refused:Int
def mO:Ow:=⟨0,0,0,0⟩
def Ow.add(c:Ow)(k u:Int):Ow:=
 ⟨if k=3 then c.bad+1 else c.bad,if k=4 then c.XA+1 else c.XA,(if k=5 then c.unknown+1 else c.unknown)+u,if k=6 then c.refused+1 else c.refused⟩
structure Ow.Below(c:Ow)(n:Int):Prop where
 bad:0≤c.bad∧c.bad≤n
 XA:0≤c.XA∧c.XA≤n
 unknown:0≤c.unknown∧c.unknown≤n
 refused:0≤c.refused∧c.refused≤n
end Go.Proofs.By
namespace Go.Proofs.By
open Go.RowKit Go.Proofs.Heap
open Go.Proofs.Rm (YD YF Room ZR Inv rU Hx)
theorem wR(w:World):Calls prog 40 #[] w fun e w'=>(∃d b,e = .returned (.pointer (some ⟨d,0,none⟩))∧X8 w' d b Rm.empty 0∧w.heap.size≤d∧w.heap.size≤b)∧Below w w w':=by
 have C:=Zh (rU w);go_enter func40,ntmps40;go_wp2_with (go_at_call 69;refine C.o.mono ?_;rintro e w2 ⟨rfl,Xn,Zb⟩;have HR:=Zh Xn;have HB:=Zh Zb;clear Xn Zb)
 go_ret;exact⟨⟨_,w.heap.size,rfl,⟨Z9 w2 _,HR.o.below (Z' w2 _)⟩,HB.o.size,Zw _⟩,ZF HB.o (Zw _) _⟩
open Go.Proofs.Rm (WG YN)
open Go.Proofs.ND (Xu)
open Go.Proofs.Mem
theorem X8.fr{w w':World}{g b:Nat}{R:Room}{ep:Int}{S:Nat→Prop}(h:X8 w g b R ep)(hf:Fr w S w w')(hd:¬S g)(hb:¬S b)(hS:∀k c fr,S k→w.heap[k]?≠some (.cells c 66 fr)):X8 w' g b R ep:=
 ⟨(hf.block g (ZX h.Y8) hd).trans h.Y8,h.room.fr hf (Zw _) hb hS⟩
end Go.Proofs.By
namespace Go.Proofs.By
open Go.RowKit Go.Proofs.Heap
open Go.Proofs.Rm (YD YF Room ZR Inv WG YN OpV XJ Bh Tk Wn Gp Uw XW turns)
open Go.Proofs.ND (Xu)
open Go.Proofs.Mem
structure WE where
 x:OpV
 b:List UInt8
structure J3(w:World)(v:Value)(L:List WE):Prop where
 row:Row w 32 v L.length (L.flatMap fun y=>XJ y.x)
 each:∀y∈L,Row w 66 (.slice y.x.sa y.x.o.ZK.length y.x.sc) y.x.o.ZK.length (YN y.x.o.ZK)∧Row w 5 (.slice y.x.ba y.x.bl y.x.bc) y.b.length (Rx y.b)∧y.x.o.name.length<9223372036854775807
theorem J3.below{w w':World}{v:Value}{L:List WE}(h:J3 w v L)(hb:Below w w w'):J3 w' v L:=⟨h.row.below hb,fun y hy=>⟨(h.each y hy).1.below hb,(h.each y hy).2.1.below hb,(h.each y hy).2.2⟩⟩
theorem J3.fr{w w':World}{v:Value}{L:List WE}{S:Nat→Prop}(h:J3 w v L)(hf:Fr w S w w')(hS:JX w S):J3 w' v L:=
 ⟨Row.fr h.row hf (Zw _) (hS.ne Zi),fun y hy=>⟨Row.fr (h.each y hy).1 hf (Zw _) (hS.ne Zi),Row.fr (h.each y hy).2.1 hf (Zw _) (hS.ne Zi),(h.each y hy).2.2⟩⟩
def pk7:List UInt8:=[128,96,0,7,0,0,0,50,0,0,0,10,192,90,0,9,5]
def bop:Nat→Rm.Op
 | 0=>⟨2,1,0,0,[97,110,110],[]⟩
 | 1=>⟨2,2,0,0,[98,111,98],[]⟩
 | 2=>⟨4,1,3,0,[],[10,11]⟩
 | 3=>⟨6,2,3,0,[],[]⟩
 | _=>⟨1,1,0,0,[],[]⟩
def Fb(h:Nat):List WE:=[⟨⟨bop 0,none,0,none,0,0⟩,[]⟩,⟨⟨bop 1,none,0,none,0,0⟩,[]⟩,⟨⟨bop 2,some ⟨h,0,none⟩,2,none,0,0⟩,[]⟩,⟨⟨bop 3,none,0,none,0,0⟩,[]⟩,⟨⟨bop 4,none,0,some ⟨h+1,0,none⟩,17,17⟩,pk7⟩]
theorem vd(w:World):Calls prog 68 (Qv 7 10) w fun e w'=>e = .returned (.slice (some ⟨w,0,none⟩) 17 17)∧w'=w.alloc (.cells (Rx pk7).toArray 5):=by
 go_enter func68,ntmps68;go_wp2;go_ret;exact⟨rfl,rfl⟩
theorem Cb(w:World):Calls prog 39 #[] w fun e w'=>e = .returned (.slice (some ⟨w.heap.size+2,0,none⟩) 5 5)∧J3 w' (.slice (some ⟨w.heap.size+2,0,none⟩) 5 5) (Fb w)∧Below w w w':=by
 have C:=Zh vd;go_enter func39,ntmps39;go_wp2_with (go_at_call 68;refine(C.o _).mono ?_;rintro e w2 ⟨rfl,rfl⟩)
 exact Yx33
open Go.Proofs.Rm (VI of YW Y_ Zp LK OP M_)
structure Tf(i:Ru):Prop where
 m0:0≤i.XT
 m1:i.XT<4294967296
 g:i.gone.length≤128
 b:i.blocks.length≤128
 p:i.Xo.length≤128
theorem WV(b:List UInt8)(p:Int):get b p 4<4294967296:=by
 unfold get;split
 ·exact be_lt4 j_
 ·decide
theorem O6:Tf XP:=⟨by decide,by decide,by decide,by decide,by decide⟩
theorem qZ(b:List UInt8):Tf (report b):=⟨by show(0:Int)≤0;decide,by show(0:Int)<4294967296;decide,TH _,by show((List.range (at8 b 0%32)).map _).length≤128;rw[Tx,List.length_range];omega,TH _⟩
theorem Dh{b:List UInt8}(h:b.length≤512)(p:Nat):(XR b p).length≤128:=by unfold XR;rw[Tx,List.length_range];omega
theorem mX{b:List UInt8}(h:b.length≤512)(k:Nat):Tf (parts b k):=by
 unfold parts;by_cases h1:k=203
 ·rw[ZU h1];exact⟨by show(0:Int)≤0;decide,by show(0:Int)<4294967296;decide,by show((XR b 4).map _).length≤128;rw[Tx];exact Dh h 4,TH _,TH _⟩
 ·rw[Z3 h1];have hg:=WV b 8;exact⟨by show(0:Int)≤(get b 8 4:Int);omega,by show(get b 8 4:Int)<4294967296;omega,TH _,TH _,by show((XR b 12).map _).length≤128;rw[Tx];exact Dh h 12⟩
theorem FM{b:List UInt8}(h:b.length≤512):Tf (Y5 b).1.1:=by
 unfold Y5;split
 ·exact O6
 split
 ·exact O6
 split
 ·exact O6
 split
 ·unfold XV;split
  ·exact O6
  ·exact qZ b
 dsimp only;split
 ·exact O6
 split
 ·exact O6
 ·exact mX j_ _
theorem FN:∀(k:Nat) (b:List UInt8),b.length≤512→(∀i∈(YE k b).1,Tf i)∧(YE k b).1.length≤k
 | 0,b,h=>⟨fun i hi=>(by cases hi),Zw _⟩
 | k+1,b,h=>by
  unfold YE;split
  ·exact⟨fun i hi=>(by cases hi),TH _⟩
  split
  ·exact⟨fun i hi=>by rw[J7]at hi;subst hi;exact FM h,by show 1≤k+1;omega⟩
  have ih:=FN k (b.drop (Y5 b).1.2) (by rw[Ra];omega);dsimp only;split
  ·exact⟨fun i hi=>(by cases hi),TH _⟩
  ·refine⟨fun i hi=>?_,by rw[List.length_cons];exact Nat.succ_le_succ ih.2⟩;rcases J9.1 hi with rfl|hi
   ·exact FM h
   ·exact ih.1 i hi
theorem Tm(b:List UInt8):(∀i∈(Yq b).1,Tf i)∧(Yq b).1.length≤8:=by
 unfold Yq;split
 ·exact⟨fun i hi=>(by cases hi),TH _⟩
 ·exact FN 8 b Zo
theorem Pf{b:List UInt8}(h3:192≤at8 b 1∧at8 b 1≤223)(h:(XY b).2=0):(XY b).1 = .Yb (Yq b).1:=by
 unfold XY at h ⊢;by_cases h1:512<b.length
 ·rw[ZU h1]at h;cases h
 rw[Z3 h1]at h ⊢;by_cases h2:b.length<2
 ·rw[ZU h2]at h;cases h
 rw[Z3 h2,ZU h3]at h ⊢;by_cases h4:(Yq b).2≠0
 ·rw[ZU h4]at h;exact absurd h h4
 ·rw[Z3 h4]
theorem LC(R:Room)(p x:Int):(YW R p x).1.1.length≤18:=by
 unfold YW;split
 ·exact TH _
 ·exact OP _ _
theorem ug(e:Int):0≤uf e∧uf e≤1:=by unfold uf;split <;> omega
theorem QC(peer:Int):∀(l:List Int) (R:Room),Inv R→Wn R→Inv (Za peer l R).1.2∧Wn (Za peer l R).1.2∧(Za peer l R).1.1.length≤18*l.length∧0≤(Za peer l R).2∧(Za peer l R).2≤l.length
 | [],R,h,hs=>⟨h,hs,Zw _,Int.le_refl _,Int.le_refl _⟩
 | x :: l,R,h,hs=>by
  have ih:=QC peer l (YW R peer x).1.2 (LK h peer x) (M_ hs peer x);have h1:=LC R peer x;have h2:=ug (YW R peer x).2;unfold Za;refine⟨ih.1,ih.2.1,?_,?_,?_⟩
  ·show((YW R peer x).1.1++_).length≤_;rw[UG,List.length_cons];have:=ih.2.2.1;omega
  ·show 0≤uf _+_;have:=ih.2.2.2.1;omega
  ·show uf _+_≤((l.length+1:Nat):Int);have:=ih.2.2.2.2;omega
theorem I_{R:Room}(h:Inv R)(hs:Wn R)(peer:Int){i:Ru}(hi:Tf i):Inv (Yh R peer i).1.2∧Wn (Yh R peer i).1.2∧(Yh R peer i).1.1.length≤3000∧0≤(Yh R peer i).2∧(Yh R peer i).2≤1000:=by
 unfold Yh;split
 ·exact⟨h,hs,TH _,by dsimp only;split <;> omega,by dsimp only;split <;> omega⟩
 split
 ·exact⟨h,hs,TH _,by dsimp only;split <;> omega,by dsimp only;split <;> omega⟩
 split
 ·have:=QC peer i.gone R h hs;have hg:=hi.g;exact⟨this.1,this.2.1,Zo,this.2.2.2.1,Zo⟩
 ·exact⟨h,hs,TH _,Int.le_refl _,by show(0:Int)≤1000;decide⟩
theorem QI(peer:Int):∀(l:List Ru) (R:Room),Inv R→Wn R→(∀i∈l,Tf i)→Inv (ZA peer l R).1.2∧Wn (ZA peer l R).1.2∧(ZA peer l R).1.1.length≤3000*l.length∧0≤(ZA peer l R).2∧(ZA peer l R).2≤1000*l.length
 | [],R,h,hs,hi=>⟨h,hs,Zw _,Int.le_refl _,Int.le_refl _⟩
 | x :: l,R,h,hs,hi=>by
  have h1:=I_ h hs peer (hi x (List.mem_cons_self ..));have ih:=QI peer l (Yh R peer x).1.2 h1.1 h1.2.1 (fun i h=>hi i (List.mem_cons_of_mem _ h));unfold ZA;refine⟨ih.1,ih.2.1,?_,?_,?_⟩
  ·show((Yh R peer x).1.1++_).length≤_;rw[UG,List.length_cons];have:=ih.2.2.1;omega
  ·show 0≤(Yh R peer x).2+_;have:=ih.2.2.2.1;omega
  ·show(Yh R peer x).2+_≤((1000:Int)*((l.length+1:Nat):Int));have:=ih.2.2.2.2;omega
theorem xZ{R:Room}(h:Inv R)(hs:Wn R)(ep p:Int)(l:List UInt8):Inv (YJ R ep p l).1.2∧Wn (YJ R ep p l).1.2∧0≤(YJ R ep p l).1.1.unknown∧(YJ R ep p l).1.1.unknown≤8000∧ep≤(YJ R ep p l).2∧(YJ R ep p l).2≤ep+1:=by
 unfold YJ;by_cases h1:(XY l).2≠0
 ·rw[ZU h1];exact⟨h,hs,by show(0:Int)≤0;decide,by show(0:Int)≤8000;decide,Int.le_refl _,by show ep≤ep+1;omega⟩
 rw[Z3 h1];by_cases h2:(!Y_ R p)=true
 ·rw[ZU h2];exact⟨h,hs,by show(0:Int)≤0;decide,by show(0:Int)≤8000;decide,Int.le_refl _,by show ep≤ep+1;omega⟩
 rw[Z3 h2];by_cases h3:192≤at8 l 1∧at8 l 1≤223
 ·rw[Pf h3 Zo];have hk:=Tm l;have:=QI p (Yq l).1 R h hs hk.1;exact⟨this.1,this.2.1,this.2.2.2.1,by show(ZA p (Yq l).1 R).2≤8000;omega,by show ep≤ep+1;omega,Int.le_refl _⟩
 ·rcases l_:(XY l).1 with _|⟨P,d⟩|fl
  ·exact⟨h,hs,by show(0:Int)≤0;decide,by show(0:Int)≤8000;decide,by show ep≤ep+1;omega,Int.le_refl _⟩
  ·dsimp only;refine⟨h,hs,?_,?_,Int.le_refl _,Zo⟩
   ·unfold VW;split <;> (show(0:Int)≤0;decide)
   ·unfold VW;split <;> (show(0:Int)≤8000;decide)
  ·exfalso;unfold XY at l_;rw[Z3 h3]at l_;split at l_
   ·cases l_
   split at l_
   ·cases l_
   split at l_
   ·cases l_
   split at l_
   ·cases l_
   ·cases l_
end Go.Proofs.By
namespace Go.Proofs.By
open Go.Proofs.Rm (Room YF VI of YW Y_ WG Zp Inv Wn Bh Gp KM Mx x9 gone Tk Uw)
theorem F7(R:Room)(p x:Int):owned R.bare p x=owned R p x:=by
 unfold owned;rw[KM];rfl
theorem yi(R:Room)(p x:Int):YW R.bare p x=(((YW R p x).1.1,(YW R p x).1.2.bare),(YW R p x).2):=by
 have h1:Y_ R.bare p=Y_ R p:=rfl;have h2:∀n,(R.bare.src n).own=(R.src n).own:=fun _=>rfl
 unfold YW;rw[KM,h1,h2,Mx];split <;> rfl
theorem Ko(p:Int):∀(l:List Int) (R:Room),Za p l R.bare=(((Za p l R).1.1,(Za p l R).1.2.bare),(Za p l R).2)
 | [],R=>rfl
 | x :: l,R=>by
  unfold Za;rw[yi];dsimp only;rw[Ko p l]
theorem yK(R:Room)(p:Int)(i:Ru):Yh R.bare p i=(((Yh R p i).1.1,(Yh R p i).1.2.bare),(Yh R p i).2):=by
 have h1:UA R.bare p i.XT=UA R p i.XT:=rfl;unfold Yh;rw[F7,h1,Ko];split
 ·rfl
 split
 ·rfl
 split <;> rfl
theorem Ky(p:Int):∀(l:List Ru) (R:Room),ZA p l R.bare=(((ZA p l R).1.1,(ZA p l R).1.2.bare),(ZA p l R).2)
 | [],R=>rfl
 | x :: l,R=>by
  unfold ZA;rw[yK];dsimp only;rw[Ky p l]
theorem yT(R:Room)(ep p:Int)(P:J4)(d:EK):VW R.bare ep p P d=VW R ep p P d:=by
 unfold VW;rw[F7,KM]
theorem Eb(R:Room)(ep p:Int)(l:List UInt8):YJ R.bare ep p l=(((YJ R ep p l).1.1,(YJ R ep p l).1.2.bare),(YJ R ep p l).2):=by
 have h1:Y_ R.bare p=Y_ R p:=rfl;unfold YJ;rw[h1];split
 ·rfl
 split
 ·rfl
 cases (XY l).1 with
 | none=>rfl
 | XT P d=>dsimp only;rw[yT]
 | Yb fl=>dsimp only;rw[Ky]
theorem rz(R:Room)(ep:Int)(o:Rm.Op)(l:List UInt8)(sv Ac:Value):(take R.bare ep o l Ac).1.1=(take R ep o l sv).1.1∧(take R.bare ep o l Ac).1.2.bare=(take R ep o l sv).1.2.bare∧(take R.bare ep o l Ac).2=(take R ep o l sv).2:=by
 unfold take;by_cases h:o.kind=1
 ·rw[ZU h,ZU h,Eb];exact⟨rfl,rfl,rfl⟩
 ·rw[Z3 h,Z3 h];obtain⟨h1,h2,h3⟩:=x9 R o sv Ac;rw[h2];by_cases h4:(WG R o sv).2≠0
  ·rw[ZU h4,ZU h4];exact⟨rfl,rfl,rfl⟩
  ·rw[Z3 h4,Z3 h4];dsimp only;rw[h1];exact⟨rfl,h3,rfl⟩
theorem BH{R:Room}(h:Inv R)(hs:Wn R)(ep:Int)(o:Rm.Op)(l:List UInt8)(sv:Value):Inv (take R ep o l sv).1.2∧Wn (take R ep o l sv).1.2∧0≤(take R ep o l sv).1.1.unknown∧(take R ep o l sv).1.1.unknown≤8000∧ep≤(take R ep o l sv).2∧(take R ep o l sv).2≤ep+1:=by
 unfold take;split
 ·exact xZ h hs ep o.peer l
 split
 ·exact⟨h,hs,by show(0:Int)≤0;decide,by show(0:Int)≤8000;decide,Int.le_refl _,by show ep≤ep+1;omega⟩
 ·exact⟨Bh h o sv,Gp hs o sv,by show(0:Int)≤0;decide,by show(0:Int)≤8000;decide,by show ep≤ep+1;omega,Int.le_refl _⟩
theorem vS(R:Room)(ep:Int)(o:Rm.Op)(l:List UInt8)(sv:Value):((take R ep o l sv).1.1.XX.kind=2∧(take R ep o l sv).1.1.XX.NH=ep+1∧(take R ep o l sv).2=ep+1)∨((take R ep o l sv).1.1.XX.kind≠2∧(take R ep o l sv).2=ep∧((take R ep o l sv).1.1.XX.kind=1→(take R ep o l sv).1.1.XX.NH=ep)):=by
 unfold take;split
 ·unfold YJ;split
  ·exact WB ⟨by show(3:Int)≠2;decide,rfl,fun h=>absurd h (by show(3:Int)≠1;decide)⟩
  split
  ·exact WB ⟨by show(4:Int)≠2;decide,rfl,fun h=>absurd h (by show(4:Int)≠1;decide)⟩
  cases (XY l).1 with
  | none=>exact WO ⟨rfl,rfl,rfl⟩
  | XT P d=>
   dsimp only;unfold VW;split
   ·exact WB ⟨by show(1:Int)≠2;decide,rfl,fun _=>rfl⟩
   ·exact WB ⟨by show(5:Int)≠2;decide,rfl,fun h=>absurd h (by show(5:Int)≠1;decide)⟩
  | Yb fl=>exact WO ⟨rfl,rfl,rfl⟩
 split
 ·exact WB ⟨by show(6:Int)≠2;decide,rfl,fun h=>absurd h (by show(6:Int)≠1;decide)⟩
 ·exact WO ⟨rfl,rfl,rfl⟩
def Yd(L:List WE):Nat→Room×Int
 | 0=>(Rm.empty,0)
 | k+1=>match L[k]? with
  | none=>Yd L k
  | some y=>((take (Yd L k).1 (Yd L k).2 y.x.o y.b (.slice none 0 0)).1.2.bare,(take (Yd L k).1 (Yd L k).2 y.x.o y.b (.slice none 0 0)).2)
def Z5(L:List WE)(k:Nat):Taken:=match L[k]? with
 | none=>UD
 | some y=>(take (Yd L k).1 (Yd L k).2 y.x.o y.b (.slice none 0 0)).1.1
theorem zy{L:List WE}{k:Nat}{y:WE}{R:Room}{ep:Int}(hy:L[k]?=some y)(hR:R.bare=(Yd L k).1)(he:ep=(Yd L k).2)(sv:Value) :
  (take R ep y.x.o y.b sv).1.1=Z5 L k∧(take R ep y.x.o y.b sv).1.2.bare=(Yd L (k+1)).1∧(take R ep y.x.o y.b sv).2=(Yd L (k+1)).2:=by
 obtain⟨h1,h2,h3⟩:=rz R ep y.x.o y.b sv (.slice none 0 0);rw[hR,he]at h1 h2 h3;have e1:Z5 L k=(take (Yd L k).1 (Yd L k).2 y.x.o y.b (.slice none 0 0)).1.1:=by unfold Z5;rw[hy]
 have e2:Yd L (k+1)=((take (Yd L k).1 (Yd L k).2 y.x.o y.b (.slice none 0 0)).1.2.bare,(take (Yd L k).1 (Yd L k).2 y.x.o y.b (.slice none 0 0)).2):=by
  conv=>lhs;unfold Yd
  rw[hy]
 rw[e1,e2,he];exact⟨h1.symm,h2.symm,h3.symm⟩
theorem DG{L:List WE}{k:Nat}(hk:k<L.length):((Z5 L k).XX.kind=2∧(Z5 L k).XX.NH=(Yd L k).2+1∧(Yd L (k+1)).2=(Yd L k).2+1)∨((Z5 L k).XX.kind≠2∧(Yd L (k+1)).2=(Yd L k).2∧((Z5 L k).XX.kind=1→(Z5 L k).XX.NH=(Yd L k).2)):=by
 have hy:L[k]?=some L[k]:=Ve hk;have e1:Z5 L k=(take (Yd L k).1 (Yd L k).2 L[k].x.o L[k].b (.slice none 0 0)).1.1:=by unfold Z5;rw[hy]
 have e2:(Yd L (k+1)).2=(take (Yd L k).1 (Yd L k).2 L[k].x.o L[k].b (.slice none 0 0)).2:=by
  conv=>lhs;unfold Yd
  rw[hy]
 rw[e1,e2];exact vS _ _ _ _ _
theorem JL(L:List WE):∀k,0≤(Yd L k).2∧(Yd L k).2≤k
 | 0=>⟨Int.le_refl _,Int.le_refl _⟩
 | k+1=>by
  have ih:=JL L k;by_cases hk:k<L.length
  ·rcases DG hk with⟨_,_,h⟩|⟨_,h,_⟩ <;> (rw[h];omega)
  ·have e2:Yd L (k+1)=Yd L k:=by
    conv=>lhs;unfold Yd
    rw[List.getElem?_eq_none Zo]
   rw[e2];omega
structure Zx where
 peer:Int
 source:Int
 Mr:Int
 fin:Int
deriving DecidableEq
def Wp:Zx:=⟨0,0,0,0⟩
def Yc(p s at':Int)(ls:List Zx):Nat→List Zx
 | 0=>ls
 | k+1=>if(ls.getD k Wp).peer=p∧(ls.getD k Wp).source=s then ls.set k {ls.getD k Wp with fin:=at'}else Yc p s at' ls k
def Yr(n at':Int)(ls:List Zx)(t:YF):List Zx:=
 if t.kind=1 then ls++[⟨t.peer,t.source,at',n⟩]
 else if t.kind=2 then Yc t.peer t.source at' ls ls.length
 else ls
theorem Ck(p s at':Int)(ls:List Zx):∀k,(Yc p s at' ls k).length=ls.length
 | 0=>rfl
 | k+1=>by
  unfold Yc;split
  ·rw[List.length_set]
  ·exact Ck p s at' ls k
theorem Bi(n at':Int)(ls:List Zx)(t:YF):(Yr n at' ls t).length≤ls.length+1:=by
 unfold Yr;split
 ·rw[UG];exact Zw _
 split
 ·rw[Ck];omega
 ·omega
def Xd(n at':Int)(ls:List Zx)(ts:List YF):List Zx:=ts.foldl (Yr n at') ls
theorem Bj(n at':Int)(ls:List Zx)(ts:List YF)(t:YF):Xd n at' ls (ts++[t])=Yr n at' (Xd n at' ls ts) t:=by
 unfold Xd;rw[List.foldl_append];rfl
theorem M7(n at':Int):∀(ts:List YF) (ls:List Zx),(Xd n at' ls ts).length≤ls.length+ts.length
 | [],ls=>Zw _
 | t :: ts,ls=>by
  have h1:=M7 n at' ts (Yr n at' ls t);have h2:=Bi n at' ls t;show(Xd n at' (Yr n at' ls t) ts).length≤_;rw[List.length_cons];omega
def Zu(L:List WE)(n:Int):Nat→List Zx
 | 0=>[]
 | k+1=>Xd n k (Zu L n k) (Z5 L k).turns
def XZ(L:List WE)(k:Nat):List EJ:=(List.range k).map fun j=>(Z5 L j).XX
theorem H7(L:List WE)(k:Nat):XZ L (k+1)=XZ L k++[(Z5 L k).XX]:=by unfold XZ;rw[n_,Nv];rfl
theorem XK(L:List WE)(k:Nat):(XZ L k).length=k:=by unfold XZ;rw[Tx,List.length_range]
end Go.Proofs.By
namespace Go.Proofs.By
open Go.Proofs.Rm (Room YF VI of YW Y_ WG turns OP QL Oa Pg Sg)
theorem zT(R:Room)(p n:Nat):(Rm.waits R p n).length≤1:=by unfold Rm.waits;split <;> simp
theorem sN(R:Room)(n:Nat)(on:Bool):(Rm.mute R n on).1.length≤18:=by
 have h1:=Sg (R.Y0 n {R.src n with ZN:=on}) n on (Rm.ZY (R.Y0 n {R.src n with ZN:=on}) n);have h2:=Pg (R.Y0 n {R.src n with ZN:=on}) n;show((Rm.ZY (R.Y0 n {R.src n with ZN:=on}) n).flatMap _).length≤18;omega
theorem nI(R:Room)(o:Rm.Op)(sv:Value):(turns R o sv).1.length≤200:=by
 unfold turns;dsimp only;by_cases k2:o.kind=2
 ·rw[ZU k2];exact TH _
 rw[Z3 k2];by_cases k3:o.kind=3
 ·rw[ZU k3];unfold Rm.leave;dsimp only;rw[UG];have h1:=QL o.peer.toNat R 9;have h2:=Oa o.peer.toNat (Rm.ZL o.peer.toNat R 9).2 9;omega
 rw[Z3 k3];by_cases k4:o.kind=4
 ·rw[ZU k4];exact TH _
 rw[Z3 k4];by_cases k5:o.kind=5
 ·rw[ZU k5];have:=OP R o.source.toNat;omega
 rw[Z3 k5];by_cases k6:o.kind=6
 ·rw[ZU k6];unfold Rm.begin;dsimp only;rw[List.length_cons];have:(if(R.src o.source.toNat).ZN=true then[(⟨6,o.peer,o.source,0,0⟩:YF)]else[Rm.asks (R.ZQ o.source.toNat o.peer.toNat ⟨true,false,o.ZI⟩) o.peer.toNat o.source.toNat]).length=1:=by split <;> rfl
  omega
 rw[Z3 k6];by_cases k7:o.kind=7
 ·rw[ZU k7];show 1≤200;decide
 rw[Z3 k7];by_cases k8:o.kind=8
 ·rw[ZU k8];have:=sN R o.source.toNat true;omega
 rw[Z3 k8];by_cases k9:o.kind=9
 ·rw[ZU k9];have:=sN R o.source.toNat false;omega
 rw[Z3 k9];by_cases k10:o.kind=10
 ·rw[ZU k10];show 1≤200;decide
 rw[Z3 k10];by_cases k11:o.kind=11
 ·rw[ZU k11];dsimp only;rw[List.length_cons];exact PX (Nat.succ_le_succ (zT _ _ _)) Zd
 rw[Z3 k11];by_cases k12:o.kind=12
 ·rw[ZU k12];dsimp only;rw[List.length_cons];exact PX (Nat.succ_le_succ (zT _ _ _)) Zd
 rw[Z3 k12];exact TH _
theorem Ia(peer:Int):∀(l:List Int) (R:Room),(Za peer l R).1.1.length≤18*l.length
 | [],R=>Zw _
 | x :: l,R=>by
  have ih:=Ia peer l (YW R peer x).1.2;have h1:=LC R peer x;unfold Za;show((YW R peer x).1.1++_).length≤_;rw[UG,List.length_cons];omega
theorem uN(R:Room)(peer:Int){i:Ru}(hi:Tf i):(Yh R peer i).1.1.length≤3000:=by
 unfold Yh;split
 ·exact TH _
 split
 ·exact TH _
 split
 ·have:=Ia peer i.gone R;have hg:=hi.g;omega
 ·exact TH _
theorem Ir(peer:Int):∀(l:List Ru) (R:Room),(∀i∈l,Tf i)→(ZA peer l R).1.1.length≤3000*l.length
 | [],R,hi=>Zw _
 | x :: l,R,hi=>by
  have h1:=uN R peer (hi x (List.mem_cons_self ..));have ih:=Ir peer l (Yh R peer x).1.2 (fun i h=>hi i (List.mem_cons_of_mem _ h));unfold ZA;show((Yh R peer x).1.1++_).length≤_;rw[UG,List.length_cons];omega
theorem AW(R:Room)(ep p:Int)(l:List UInt8):(YJ R ep p l).1.1.turns.length≤24000:=by
 unfold YJ;by_cases h1:(XY l).2≠0
 ·rw[ZU h1];exact TH _
 rw[Z3 h1];by_cases h2:(!Y_ R p)=true
 ·rw[ZU h2];exact TH _
 rw[Z3 h2];by_cases h3:192≤at8 l 1∧at8 l 1≤223
 ·rw[Pf h3 Zo];have hk:=Tm l;have:=Ir p (Yq l).1 R hk.1;show(ZA p (Yq l).1 R).1.1.length≤24000;omega
 ·obtain⟨P,d,hp⟩:=Gl h3 Zo;rw[hp];dsimp only;unfold VW;split <;> exact TH _
theorem nE(R:Room)(ep:Int)(o:Rm.Op)(l:List UInt8)(sv:Value):(take R ep o l sv).1.1.turns.length≤24000:=by
 unfold take;split
 ·exact AW _ _ _ _
 split
 ·exact TH _
 ·rename_i h
  show(WG R o sv).1.1.length≤24000;unfold WG;split
  ·exact TH _
  ·have:=nI R o sv;exact PX this Zd
theorem Ng(L:List WE)(k:Nat):(Z5 L k).turns.length≤24000:=by
 unfold Z5;split
 ·exact TH _
 ·exact nE _ _ _ _ _
theorem Sd(L:List WE)(n:Int):∀k,(Zu L n k).length≤24000*k
 | 0=>Zw _
 | k+1=>by
  have ih:=Sd L n k;have h1:=M7 n k (Z5 L k).turns (Zu L n k);have h2:=Ng L k;show(Xd n k (Zu L n k) (Z5 L k).turns).length≤_;omega
def Od(L:List WE)(k:Nat):List (J4×EK):=(List.range k).map fun j=>((Z5 L j).XQ,(Z5 L j).Wx)
theorem yU(L:List WE)(k:Nat):Od L (k+1)=Od L k++[((Z5 L k).XQ,(Z5 L k).Wx)]:=by unfold Od;rw[n_,Nv];rfl
theorem FZ(L:List WE)(k:Nat):(Od L k).length=k:=by unfold Od;rw[Tx,List.length_range]
def noOp:Rm.Op:=⟨0,0,0,0,[],[]⟩
def opAt(L:List WE)(k:Nat):Rm.Op:=match L[k]? with
 | none=>noOp
 | some y=>y.x.o
def F5(L:List WE)(k:Nat):Int:=if(Z5 L k).XX.kind≠2∨(opAt L k).kind=1 then 0 else(opAt L k).kind
structure VS where
 want:Int
 cur:Int
 ZV:Bool
 ZN:Bool
deriving DecidableEq
def VS.quiet(s:VS):Bool:=s.ZV||s.ZN
def Wh(x:Zx)(at':Int):Bool:=decide (x.Mr<at')&&decide (at'<x.fin)
def QP(s:VS)(k q:Int):VS:=if k=12 then{s with want:=q}else if k=10 then{s with ZV:=true,cur:= -1}else if k=11 then{s with ZV:=false}else s
def XU(L:List WE)(x:Zx)(k:Nat):Bool:=Wh x k&&decide ((Z5 L k).XX.kind=1)&&decide ((Z5 L k).XX.source=x.source)
def VK(s:VS)(d:EK):Bool:= !s.quiet&&d.key&&d.start&&decide (d.ZI=s.want) && !decide (d.ZI=s.cur)
def YY(s:VS)(k:Int):VS:=if k=4∨k=9 then{s with ZN:=false}else if k=8 then{s with ZN:=true,cur:= -1}else s
def Tg(L:List WE)(x:Zx)(s:VS)(k:Nat):VS:=
 if(opAt L k).source=x.source then
  (if(opAt L k).peer=x.peer∧Wh x k=true then QP (YY s (F5 L k)) (F5 L k) (opAt L k).ZI else YY s (F5 L k))
 else s
def UQ(L:List WE)(x:Zx)(s:VS)(k:Nat):VS:=
 if XU L x k&&VK s (Z5 L k).Wx then{Tg L x s k with cur:=(Z5 L k).Wx.ZI}else Tg L x s k
def ZC(L:List WE)(x:Zx):Nat→VS
 | 0=>⟨(opAt L x.Mr.toNat).ZI,-1,false,false⟩
 | k+1=>UQ L x (ZC L x k) k
def WL(L:List WE)(x:Zx)(n:Nat):List VS:=(List.range n).map (ZC L x)
theorem Um(L:List WE)(x:Zx)(n:Nat):WL L x (n+1)=WL L x n++[ZC L x n]:=by unfold WL;rw[n_,Nv];rfl
theorem Nb(L:List WE)(x:Zx)(n:Nat):(WL L x n).length=n:=by unfold WL;rw[Tx,List.length_range]
theorem QW(L:List WE)(x:Zx){n k:Nat}(h:k<n):(WL L x n)[k]?=some (ZC L x k):=by unfold WL;rw[List.getElem?_map,List.getElem?_range h];rfl
def there(x:Zx)(at':Int):Bool:=decide (x.Mr<at')&&decide (at'≤x.fin)
end Go.Proofs.By
namespace Go.Proofs.By
structure rJ where
 event:Int
 seq:Int
 time:Int
 Yl:Int
 frame:Int
 sw:Bool
deriving DecidableEq
def KL:rJ:=⟨0,0,0,0,0,false⟩
structure tU where
 o:List rJ
 opn:Int
 begin:Int
 Uy:Int
def NL(l:List rJ):rJ:=l.getD (l.length-1) KL
def NV(a b:Int):Int:=IntKind.i16.wrap (IntKind.u16.wrap (a-b))
def Cn(L:List WE)(s:VS)(out:List rJ)(k:Nat):Bool:=
 decide ((Z5 L k).Wx.ZI=s.cur) && !decide (out.length=0)&&decide (0<NV (Z5 L k).XQ.seq (Z5 L (NL out).event.toNat).XQ.seq)
def fV(L:List WE)(x:Zx)(z:tU)(k:Nat)(op:Bool):rJ:=
 ⟨k,IntKind.u16.wrap z.o.length,IntKind.u32.wrap (IntKind.u32.wrap ((Z5 L k).XQ.time-(Z5 L z.opn.toNat).XQ.time)+z.begin),W8 x.peer x.source,IntKind.u16.wrap (z.Uy-1),op⟩
def QR(z:tU)(k:Nat)(op st:Bool):tU:=
 ⟨z.o,if op then k else z.opn,if op then(if 0<z.o.length then IntKind.u32.wrap ((NL z.o).time+3000)else z.begin)else z.begin,if st then IntKind.u16.wrap (z.Uy+1)else z.Uy⟩
def IC(L:List WE)(x:Zx)(s:VS)(z:tU)(k:Nat):tU:=
 let r:=QR z k (VK s (Z5 L k).Wx) (Z5 L k).Wx.start
 {r with o:=r.o++[fV L x r k (VK s (Z5 L k).Wx)]}
def Pe(L:List WE)(x:Zx)(s:VS)(z:tU)(k:Nat):tU:=
 if XU L x k && !s.quiet&&(VK s (Z5 L k).Wx||Cn L s z.o k)then IC L x s z k else z
def QV(L:List WE)(x:Zx):Nat→tU
 | 0=>⟨[],0,0,0⟩
 | k+1=>Pe L x (ZC L x k) (QV L x k) k
structure E9(k:Nat)(z:tU):Prop where
 len:z.o.length≤k
 ev:∀e∈z.o,0≤e.event∧e.event<k
 opn:0≤z.opn∧(z.opn<k∨z.opn=0)
 bg:0≤z.begin∧z.begin<4294967296
 st:0≤z.Uy∧z.Uy<65536
theorem zm{z:tU}{k:Nat}(h:E9 k z)(op st:Bool):(0≤(QR z k op st).opn∧(QR z k op st).opn<((k+1:Nat):Int))∧(0≤(QR z k op st).begin∧(QR z k op st).begin<4294967296)∧(0≤(QR z k op st).Uy∧(QR z k op st).Uy<65536):=by
 have h1:=h.opn;have h2:=h.bg;have h3:=h.st;have w1:0≤IntKind.u32.wrap ((NL z.o).time+3000)∧IntKind.u32.wrap ((NL z.o).time+3000)<4294967296:=by rw[Np];omega
 have w2:0≤IntKind.u16.wrap (z.Uy+1)∧IntKind.u16.wrap (z.Uy+1)<65536:=by rw[IntKind.wrap_u16];omega
 unfold QR;dsimp only;refine⟨?_,?_,?_⟩
 ·cases op
  ·show 0≤z.opn∧z.opn<_;omega
  ·show 0≤(k:Int)∧(k:Int)<_;omega
 ·cases op
  ·exact h2
  ·by_cases hl:0<z.o.length
   ·rw[ZU rfl,ZU hl];exact w1
   ·rw[ZU rfl,Z3 hl];exact h2
 ·cases st
  ·exact h3
  ·exact w2
theorem E9.step{L:List WE}{x:Zx}{s:VS}{z:tU}{k:Nat}(h:E9 k z):E9 (k+1) (Pe L x s z k):=by
 have hw:E9 (k+1) z:=⟨by have:=h.len;omega,fun e he=>by have:=h.ev e he;omega,by have:=h.opn;omega,h.bg,h.st⟩;unfold Pe;split
 ·obtain⟨r1,r2,r3⟩:=zm h (VK s (Z5 L k).Wx) (Z5 L k).Wx.start;unfold IC;dsimp only;refine⟨?_,?_,⟨r1.1,WO r1.2⟩,r2,r3⟩
  ·show(z.o++[_]).length≤k+1;rw[UG];have:=h.len;simp only[List.length_cons,List.length_nil];omega
  ·intro e he;rcases EN.1 he with h1|h1
   ·exact hw.ev e h1
   ·rw[J7]at h1;subst h1;show 0≤(k:Int)∧(k:Int)<((k+1:Nat):Int);omega
 ·exact hw
theorem DI(L:List WE)(x:Zx):∀k,E9 k (QV L x k)
 | 0=>⟨Zw _,(fun e h=>by cases h),⟨Int.le_refl _,WB rfl⟩,⟨Int.le_refl _,(by decide:(0:Int)<4294967296)⟩,⟨Int.le_refl _,(by decide:(0:Int)<65536)⟩⟩
 | k+1=>(DI L x k).step
end Go.Proofs.By
