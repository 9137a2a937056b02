/- Part of a proof. -/
import Derived.Test.YtpdjhlcbcomdkaaGreatDoorChecked
import Derived.Test.YtpdjhlcbcomdkaaGreatDoorR22
set_option linter.unusedVariables false
set_option linter.unusedSimpArgs false
set_option maxRecDepth 100000
set_option maxHeartbeats 16000000
open Go Go.Q Go.Qr
namespace Go.Proofs.By
open Go.RowKit Go.Proofs.Heap
theorem zq (v:Value) (w:World):(Instr.typeAssert (.iface 213 v) 188 97 true).run Tryz.prog w = .ok (.tuple (Q1 UM false)) w:=by kernel_rfl
theorem jx (v:Value) (w:World):(Instr.typeAssert (.iface 213 v) 188 213 true).run Tryz.prog w = .ok (.tuple #[v,.bool true]) w:=by kernel_rfl
theorem G_ {P:Program} {fn:Func} {p q u:Tmp} {t1 t2:TypeId} (h:fn.results=#[.cell p t1,.cell q t2,.tmp u]) (tmps:Array Value) (w:World) (g1 g2:Nat) (e1 e2:TypeId) (c1 c2:Array Value) (f1 f2:Nat × Nat) (d1 d2:TypeDesc)
  (hp:tmps.getD p undef = .pointer (some ⟨g1,0,none⟩)) (hg:w.heap[g1]?=some (.cells c1 e1 f1)) (hu:P.underlying t1=some d1) (hd:(match d1 with | .struct _ | .array _ _=>true|_=>false)=true) (hi:(P.info? t1).map (·.size)=some c1.size)
  (hp2:tmps.getD q undef = .pointer (some ⟨g2,0,none⟩)) (om:w.heap[g2]?=some (.cells c2 e2 f2)) (hu2:P.underlying t2=some d2) (qI:(match d2 with | .struct _ | .array _ _=>true|_=>false)=true) (hi2:(P.info? t2).map (·.size)=some c2.size) :
  (results fn tmps).run P w = .ok (.tuple #[.agg c1,.agg c2,tmps.getD u undef]) w:=by
 have sF:tmps[p]?.getD undef = .pointer (some ⟨g1,0,none⟩):=by simpa using hp
 have kr:tmps[q]?.getD undef = .pointer (some ⟨g2,0,none⟩):=by simpa using hp2
 simp [results,h,sF,kr,asAddr,run_loadVar_row w g1 e1 t1 c1 f1 d1 hg hu hd hi,run_loadVar_row w g2 e2 t2 c2 f2 d2 om hu2 qI hi2]
theorem lR (iv:Value) (l:List Ro) (w:World) (hv:YI w iv l) (Wq:∀ i∈l,S9 i) (hl:l.length≤1000) :
  Calls Tryz.prog 107 #[.iface 213 (.agg #[iv])] w fun e w'=>(∃ v',e = .returned (.tuple #[.agg VC,.agg (Qd 0 false false 0),v'])∧YI w' v' l)∧Below w w w':=by
 obtain ⟨ia,ic,rfl⟩:=YI.form hv;have CO:=Zh (fun (w':World) (h:Below w w w')=>BG (.slice ia l.length ic) l w' (hv.below h) Wq hl);have as1:=zq;have as2:=jx;have e1:(w.alloc (.cells VC 79)).heap.size=w.heap.size+1:=by show (w.heap.push _).size=_;rw [OI]
 have e2:((w.alloc (.cells VC 79)).alloc (.cells (Qd 0 false false 0) 81)).heap.size=w.heap.size+2:=by show ((w.heap.push _).push _).size=_;rw [OI,OI]
 have e3:(((w.alloc (.cells VC 79)).alloc (.cells (Qd 0 false false 0) 81)).alloc (.cells UM 97)).heap.size=w.heap.size+3:=by show (((w.heap.push _).push _).push _).size=_;rw [OI,OI,OI]
 have hP:(((w.alloc (.cells VC 79)).alloc (.cells (Qd 0 false false 0) 81)).alloc (.cells UM 97)).heap[w.heap.size]?=some (.cells VC 79 (0,0)):=by
  rw [(Z' ((w.alloc (.cells VC 79)).alloc (.cells (Qd 0 false false 0) 81)) _).block _ (by rw [e2];omega),(Z' (w.alloc (.cells VC 79)) _).block _ (by rw [e1];omega)];exact Z8 w _
 have hD:(((w.alloc (.cells VC 79)).alloc (.cells (Qd 0 false false 0) 81)).alloc (.cells UM 97)).heap[w.heap.size+1]?=some (.cells (Qd 0 false false 0) 81 (0,0)):=by
  rw [(Z' ((w.alloc (.cells VC 79)).alloc (.cells (Qd 0 false false 0) 81)) _).block _ (by rw [e2];omega)];have h:=Z8 (w.alloc (.cells VC 79)) (.cells (Qd 0 false false 0) 81);rw [e1] at h;exact h
 have hM:(((w.alloc (.cells VC 79)).alloc (.cells (Qd 0 false false 0) 81)).alloc (.cells UM 97)).heap[w.heap.size+2]?=some (.cells UM 97 (0,0)):=by
  have h:=Z8 ((w.alloc (.cells VC 79)).alloc (.cells (Qd 0 false false 0) 81)) (.cells UM 97);rw [e2] at h;exact h
 have hP2:((((w.alloc (.cells VC 79)).alloc (.cells (Qd 0 false false 0) 81)).alloc (.cells UM 97)).setRow (w.heap.size+2) UM).heap[w.heap.size]?=some (.cells VC 79 (0,0)):=(setRow_other _ _ _ _ Zo).trans hP;have cD:((((w.alloc (.cells VC 79)).alloc (.cells (Qd 0 false false 0) 81)).alloc (.cells UM 97)).setRow (w.heap.size+2) UM).heap[w.heap.size+1]?=some (.cells (Qd 0 false false 0) 81 (0,0)):=(setRow_other _ _ _ _ Zo).trans hD;have lT:Hid (Below w w ((((w.alloc (.cells VC 79)).alloc (.cells (Qd 0 false false 0) 81)).alloc (.cells UM 97)).setRow (w.heap.size+2) UM)):=Z3 (ZF (ZF (Z' w _) (Zw _) _) (Zw _) _) Zo _;clear hv Wq hl e1 e2 e3 hP hD;go_enter Tryz.func107,Tryz.ntmps107;go_upto_region 4 with (with_reducible refine ZU 97 (.tmp 5) (.tmp 12) rfl ?_;refine ZV rfl 97 (.tmp 5) (.tmp 12) rfl rfl (w.heap.size+2) UM rfl rfl 97 UM hM ZB ZB ZB ?_)
 clear hM;generalize ((((w.alloc (.cells VC 79)).alloc (.cells (Qd 0 false false 0) 81)).alloc (.cells UM 97)).setRow (w.heap.size+2) UM)=w3 at *
 have hl3:=ZW hP2;have hl4:=ZW cD;have Ux:Hid (Below w3 w3 (w3.alloc (.cells #[.slice ia l.length ic] 213))):=Z' w3 _;have Bq:Hid (Below w w (w3.alloc (.cells #[.slice ia l.length ic] 213))):=lT.o.trans (Ux.o.mono lT.o.size);have hP4:=(Ux.o.block _ hl3).trans hP2;have hD4:=(Ux.o.block _ hl4).trans cD;have hl5:=ZW hP4;have hl6:=ZW hD4;clear hP2 cD hl3 hl4;go_wp2_with (first|(go_at_call 129;refine (CO.o _ Bq.o).mono ?_;rintro e w5 ⟨⟨v',rfl,hit⟩,MI⟩;obtain ⟨ja,jc,hjv⟩:=YI.form hit;subst hjv;have hP5:=(MI.block _ hl5).trans hP4;have hD5:=(setRow_other w5 w.heap.size (w.heap.size+1) VC Zo).trans ((MI.block _ hl6).trans hD4);have RM:=Zh (Bq.o.trans (MI.mono Bq.o.size));have FV:=Zh hit;clear MI hit)|(with_reducible refine ZU 79 (.tmp 2) (.tmp 26) rfl ?_;refine ZV rfl 79 (.tmp 2) (.tmp 26) rfl rfl w.heap.size VC rfl rfl 79 VC hP5 ZB ZB ZB ?_)|(with_reducible refine ZU 81 (.tmp 3) (.tmp 27) rfl ?_;refine ZV rfl 81 (.tmp 3) (.tmp 27) rfl rfl (w.heap.size+1) (Qd 0 false false 0) rfl rfl 81 (Qd 0 false false 0) hD5 ZB ZB ZB ?_))
 refine VD (v:= .tuple #[.agg VC,.agg (Qd 0 false false 0),.slice ja l.length jc]) ?_ rfl ?_
 ·refine (G_ (p:=2) (q:=3) (u:=4) (t1:=79) (t2:=81) rfl _ _ w.heap.size (w.heap.size+1) 79 81 VC (Qd 0 false false 0) (0,0) (0,0) _ _ Zr ((setRow_other _ _ _ _ Zo).trans (setRow_heap _ _ _ _ _ _ hP5)) Tryz.underlying79 rfl ZB Zr (setRow_heap _ _ _ _ _ _ hD5) Tryz.underlying81 rfl ZB).trans ?_;rfl
 refine ⟨⟨_,rfl,?_⟩,Z3 (Z3 RM.o (Zw _) _) (Ix _) _⟩;have k1:YI (w5.setRow w.heap.size VC) (.slice ja l.length jc) l:=FV.o.fr (Tq w5 _ _) (fun k hk=>by have hk:k=w.heap.size:=hk;subst hk;exact ⟨_,_,_,hP5,by decide,by decide,by decide,by decide,by decide,by decide,by decide⟩);exact k1.fr (Tq _ _ _) (fun k hk=>by have hk:k=w.heap.size+1:=hk;subst hk;exact ⟨_,_,_,hD5,by decide,by decide,by decide,by decide,by decide,by decide,by decide⟩)
open Go.Proofs.Rm (VE)
theorem A1 (n:Int) (w:World):Calls Tryz.prog 66 (Qz n 8) w fun e w'=>e = .returned (.bool (VE n 9))∧w=w':=by
 have HW:Hid (VE n 9=(decide (1≤n) && decide (n<9))):=rfl;generalize VE n 9=x at *
 by_cases h1:1≤n
 ·have HF:Hid (x=decide (n≤8)):=by show _=_;rw [HW.o,Wi h1];simp only [Bool.true_and];exact decide_eq_decide.2 Zo
  have d1:decide (1≤n)=true:=Wi h1;clear HW;go_enter Tryz.func66,Tryz.ntmps66;go_wp2;go_ret;exact ⟨Xw HF.o.symm,rfl⟩
 ·have HF:Hid (x=false):=by show _=_;rw [HW.o,WI h1];simp
  have d1:decide (1≤n)=false:=WI h1;clear HW;go_enter Tryz.func66,Tryz.ntmps66;go_wp2;go_ret;exact ⟨Xw HF.o.symm,rfl⟩
theorem Ll {a b:Int} (h:a=b):Ending.returned (.int .u32 a) = .returned (.int .u32 b):=by rw [h]
theorem Ls (p s:Int) (w:World):Calls Tryz.prog 37 (Qz p s) w fun e w'=>e = .returned (.int .u32 (Xj p s))∧w=w':=by
 have CP:=Zh (A1 p w);have CS:=Zh (A1 s w);cases h1:VE p 9
 ·have HF:Hid (Xj p s=0):=by show _=_;unfold Xj;rw [h1];rfl
  rw [h1] at CP;generalize Xj p s=x at *
  clear CS h1;go_enter Tryz.func37,Tryz.ntmps37;go_wp2_with (go_at_call 66;refine CP.o.mono ?_;rintro e w' ⟨rfl,rfl⟩)
  go_ret;exact ⟨Ll HF.o.symm,rfl⟩
 ·cases h2:VE s 9
  ·have HF:Hid (Xj p s=0):=by show _=_;unfold Xj;rw [h1,h2];rfl
   rw [h1] at CP;rw [h2] at CS;generalize Xj p s=x at *
   clear h1 h2;go_enter Tryz.func37,Tryz.ntmps37;go_wp2_with fail
   refine CP.o.mono ?_;rintro e w' ⟨rfl,rfl⟩;go_wp2_with fail
   refine CS.o.mono ?_;rintro e w' ⟨rfl,rfl⟩;go_wp2_with fail
   go_ret;exact ⟨Ll HF.o.symm,rfl⟩
  ·have HF:Hid (Xj p s=3221225472+(256*p+s)):=by show _=_;unfold Xj;rw [h1,h2];rfl
   rw [h1] at CP;rw [h2] at CS;obtain ⟨b1,b2⟩:=Xn.1 h1;obtain ⟨b3,b4⟩:=Xn.1 h2;generalize Xj p s=x at *
   clear h1 h2;go_enter Tryz.func37,Tryz.ntmps37;go_wp2_with fail
   refine CP.o.mono ?_;rintro e w' ⟨rfl,rfl⟩;go_wp2_with fail
   refine CS.o.mono ?_;rintro e w' ⟨rfl,rfl⟩;go_wp2_with fail
   go_ret;exact ⟨Ll (by rw [HF.o]),rfl⟩
theorem xM (x:Int) (w:World) (h0:0≤x) (h1:x<4294967296) :
  Calls Tryz.prog 160 #[.int .u32 x] w fun e w'=>e = .returned (.tuple (Q5 (U9 x).1 (U9 x).2.1 (U9 x).2.2))∧w=w':=by
 have hw:IntKind.u32.wrap (x-3221225472)=(x+1073741824) % 4294967296:=by rw [NI];omega
 have HE:Hid (U9 x=if VE ((x+1073741824) % 4294967296 / 256) 9 && VE ((x+1073741824) % 4294967296 % 256) 9 then ((x+1073741824) % 4294967296 / 256,(x+1073741824) % 4294967296 % 256,true) else (0,0,false)):=rfl
 have hx:∀ n:Int,n=(x+1073741824) % 4294967296→VE (n / 256) 9=true→VE (n % 256) 9=true→3221225472+(256*(n / 256)+n % 256)=x:=fun n hn ha hb=>by
  rw [Xn] at ha hb;omega
 have NT:0≤(x+1073741824) % 4294967296:=by omega
 have YY:(x+1073741824) % 4294967296<4294967296:=by omega
 generalize U9 x=X at *
 generalize (x+1073741824) % 4294967296=n at *
 have CO:=Zh (Ls (n / 256) (n % 256) w);have hq0:0≤n / 256:=by omega
 have hq1:n / 256<16777216:=by omega
 have hr0:0≤n % 256:=by omega
 have dH:n % 256<256:=by omega
 by_cases hc:(VE (n / 256) 9 && VE (n % 256) 9)=true
 ·have hX:X=(n / 256,n % 256,true):=by rw [HE.o,ZR hc]
  subst hX;have K5:=hc;rw [UR] at K5;have e:Xj (n / 256) (n % 256)=x:=by unfold Xj;rw [ZR hc,hx n rfl K5.1 K5.2]
  rw [e] at CO;have WK:3221225472≤x:=by have:=hx n rfl K5.1 K5.2;omega
  have b1:(x == 0)=false:=by rw [WR];omega
  have b2:(x != x)=false:=by simp
  clear HE hx hc K5 e;exact fS
 ·have hX:X=(0,0,false):=by rw [HE.o,Z4 hc]
  subst hX;have e:Xj (n / 256) (n % 256)=0:=by unfold Xj;rw [Z4 hc]
  rw [e] at CO;clear HE hx hc e;exact fS
end Go.Proofs.By
namespace Go.Proofs.By
open Go.RowKit Go.Proofs.Heap
open Go.Proofs.Rm (YF YB Room ZT Inv of P7 of_lt JZ Oa BI Zv)
theorem rA (b:Nat) (R:Room) (peer x:Int) (w:World) (hR:ZT w b R) (hI:Inv R) (hl:∀ n,(R.src n).ss.length≤1000000) :
  Calls Tryz.prog 130 (Ja (some ⟨b,0,none⟩) peer x) w fun e w'=>(∃ n l:Int,e = .returned (.tuple (Q5 n l (owned R peer x))))∧Below w w w':=by
 obtain ⟨n,O2,O3,hO⟩:∃ (n:Nat) (O2:Int) (O3:Bool),of R x=((n:Int),O2,O3):=⟨(of R x).1.toNat,(of R x).2.1,(of R x).2.2,by rw [Int.toNat_of_nonneg (of_lt R x).1]⟩
 have HX:Hid (owned R peer x=(O3 && decide ((R.src n).own=peer))):=by
  show _=_;unfold owned;rw [hO];rfl
 have HTH:Hid (O3=true→(R.src n).there=true):=by
  show _→_;intro h3;obtain ⟨m,_,h1,_,h2⟩:=P7 (R:=R) (x:=x) (by rw [hO];exact h3);rw [hO] at h2;have h4:(n:Int)=(m:Int):=congrArg (·.1) h2;have h4:n=m:=by omega
  rw [h4];exact h1
 have COF:Hid (Calls Tryz.prog 127 (Jg (some ⟨b,0,none⟩) x) w fun e w'=>e = .returned (.tuple (Q5 (n:Int) O2 O3))∧Below w w w'):=by
  have h:=JZ b R x w hR;rw [hO] at h;exact h
 have CSR:=Zh (fun (w2:World) (h:Below w w w2)=>Oa b R n w2 (hR.below h) hI hl);generalize owned R peer x=X at *
 clear hO hR hI hl;cases O3 with
 | false=>
  have zg:Hid (X=false):=by show _=_;rw [HX.o];rfl
  clear HX HTH;go_enter Tryz.func130,Tryz.ntmps130;go_wp2_with (first|(go_at_call 127;refine COF.o.mono ?_;rintro e w2 ⟨rfl,Y7⟩;have X8:=Zh Y7;clear Y7)|(go_at_call 81;refine (CSR.o _ X8.o).mono ?_;rintro e w3 ⟨⟨nm,ow,a,k,c,mu,has,rfl,Ff,Eh⟩,VJ⟩;have Wc:=Zh (X8.o.trans (VJ.mono X8.o.size));clear VJ Ff Eh))
  go_ret3
  exact ⟨⟨0,0,by rw [zg.o];rfl⟩,ZF Wc.o (Zw _) _⟩
 | true=>
  by_cases hp:(R.src n).own=peer
  ·have zg:Hid (X=true):=by show _=_;rw [HX.o,Wi hp];rfl
   have HP:=Zh hp;clear HX hp;go_enter Tryz.func130,Tryz.ntmps130;go_wp2_with (first|(go_at_call 127;refine COF.o.mono ?_;rintro e w2 ⟨rfl,Y7⟩;have X8:=Zh Y7;clear Y7)|(go_at_call 81;refine (CSR.o _ X8.o).mono ?_;rintro e w3 ⟨⟨nm,ow,a,k,c,mu,has,rfl,Ff,Eh⟩,VJ⟩;have Wc:=Zh (X8.o.trans (VJ.mono X8.o.size));have sD:ow=peer:=((Eh (by rw [Ff];exact HTH.o BK)).trans HP.o);have sj:(ow != peer)=false:=(by rw [sD];simp);have hbb2:(ow == peer)=true:=(by rw [sD];simp);clear VJ Ff Eh sD))
   go_ret3
   exact ⟨⟨(n:Int),O2,by rw [zg.o];rfl⟩,ZF Wc.o (Zw _) _⟩
  ·have zg:Hid (X=false):=by show _=_;rw [HX.o,WI hp];rfl
   have HP:=Zh hp;clear HX hp;go_enter Tryz.func130,Tryz.ntmps130;go_wp2_with (first|(go_at_call 127;refine COF.o.mono ?_;rintro e w2 ⟨rfl,Y7⟩;have X8:=Zh Y7;clear Y7)|(go_at_call 81;refine (CSR.o _ X8.o).mono ?_;rintro e w3 ⟨⟨nm,ow,a,k,c,mu,has,rfl,Ff,Eh⟩,VJ⟩;have Wc:=Zh (X8.o.trans (VJ.mono X8.o.size));have sD:=Eh (by rw [Ff];exact HTH.o BK);have WK:ow≠peer:=(by rw [sD];exact HP.o);have sj:(ow != peer)=true:=(by rw [RQ];exact WK);have hbb2:(ow == peer)=false:=(by rw [WR];exact WK);clear VJ Ff Eh sD WK))
   go_ret3
   exact ⟨⟨0,0,by rw [zg.o];rfl⟩,ZF Wc.o (Zw _) _⟩
theorem rz (b:Nat) (R:Room) (peer x:Int) (w:World) (hR:ZT w b R) (h0:0≤x) (h1:x<4294967296) :
  Calls Tryz.prog 131 (Ja (some ⟨b,0,none⟩) peer x) w fun e w'=>(∃ n:Int,e = .returned (.tuple (Q9 n (Uy R peer x))))∧Below w w w':=by
 have CW:=Zh (xM x w h0 h1);have HX:Hid (Uy R peer x=((U9 x).2.2 && decide ((U9 x).1=peer) && Zv R peer (U9 x).2.1)):=rfl;generalize U9 x=W at *
 obtain ⟨wp,ws,wk⟩:=W;dsimp only at CW HX;have CS:=Zh (BI b R peer ws w hR);generalize Uy R peer x=X at *
 generalize Zv R peer ws=hv at *
 generalize (R.sub ws.toNat peer.toNat).want=s1 at *
 generalize (R.sub ws.toNat peer.toNat).ZQ=s2 at *
 clear hR h0 h1;cases wk with
 | false=>
  have zg:Hid (X=false):=by show _=_;rw [HX.o];rfl
  clear HX;cases hv with
  | false=>
   rw [Z4 Zi] at CS;exact mZ
  | true=>
   rw [ZR rfl] at CS;exact mZ
 | true=>
  by_cases hp:wp=peer
  ·subst hp;cases hv with
   | false=>
    have zg:Hid (X=false):=by show _=_;rw [HX.o];simp
    rw [Z4 Zi] at CS;clear HX;exact mZ
   | true=>
    have zg:Hid (X=true):=by show _=_;rw [HX.o];simp
    rw [ZR rfl] at CS;clear HX;go_enter Tryz.func131,Tryz.ntmps131;go_wp2_with (first|(go_at_call 160;refine CW.o.mono ?_;rintro e w2 ⟨rfl,rfl⟩)|(go_at_call 83;refine CS.o.mono ?_;rintro e w3 ⟨rfl,VJ⟩;have Wc:=Zh VJ;clear VJ))
    go_ret2
    exact ⟨⟨ws,by rw [zg.o];rfl⟩,ZF Wc.o (Zw _) _⟩
  ·have zg:Hid (X=false):=by show _=_;rw [HX.o,WI hp];simp
   have sj:(wp != peer)=true:=by rw [RQ];exact hp
   have hbb2:(wp == peer)=false:=by rw [WR];exact hp
   clear HX hp;cases hv with
   | false=>
    rw [Z4 Zi] at CS;exact mZ
   | true=>
    rw [ZR rfl] at CS;exact mZ
open Go.Proofs.Rm (V8 YO Z9 XM VT X_ WG YL YS yH Mf Nv)
theorem Hl {l:List Int} {k:Nat} (h:k<l.length):l.take (k+1)=l.take k++[l.getD k 0]:=by
 rw [List.take_succ_eq_append_getElem h,SC,Vb h];rfl
theorem vD (b:Nat) (R:Room) (peer:Int) (x:RN) (w:World) (hR:ZT w b R) (hI:Inv R) (hS:V8 R) (Wq:S9 x.i) (hx:Uf w x) :
  Calls Tryz.prog 108 (Ji (some ⟨b,0,none⟩) peer (YX x).toArray) w fun e w'=>
   (∃ v,e = .returned (.tuple #[v,.int .i64 (Yf R peer x.i).2])∧YF w' v (Yf R peer x.i).1.1)∧ZT w' b (Yf R peer x.i).1.2∧Fr w (· = b) w w':=by
 obtain ⟨i,bv,gv,pv⟩:=x;obtain ⟨ba,bc,n_⟩:=Row.form hx.b;obtain ⟨ga,gc,wD⟩:=Row.form hx.g;obtain ⟨pa,pc,Md⟩:=Row.form hx.p;have lA:=hx.g;obtain ⟨kd,ss,nt,tm,pk,oc,bs,gn,md,ps⟩:=i;have sB:=Wq.m0;have Cm:=Wq.m1;have Bh:=Wq.g;clear Wq hx;dsimp only at n_ wD Md lA sB Cm Bh ⊢;subst n_;subst wD;subst Md;dsimp only [YX];have V6:Hid (Below w w (w.alloc (.cells (Qe kd ss nt tm pk oc ba bs.length bc ga gn.length gc md pa ps.length pc) 173))):=Z' w _;have hz:=Z8 w (.cells (Qe kd ss nt tm pk oc ba bs.length bc ga gn.length gc md pa ps.length pc) 173);have HR:=Zh hR;have KG:=Zh (hR.below V6.o);have hb:=hR.lt;have FV:Hid (Yf R peer ⟨kd,ss,nt,tm,pk,oc,bs,gn,md,ps⟩=if kd=200 then (([],R),if owned R peer ss then 0 else 1) else if kd=205∨kd=206 then (([],R),if Uy R peer md then 0 else 1) else if kd=203 then Ze peer gn R else (([],R),0)):=rfl;generalize Yf R peer ⟨kd,ss,nt,tm,pk,oc,bs,gn,md,ps⟩=X at *
 generalize bs.length=bl at *
 generalize ps.length=pl at *
 by_cases Mh:kd=200
 ·subst Mh;have VA:Hid (X=(([],R),if owned R peer ss then 0 else 1)):=by show _=_;rw [FV.o];simp
  have CO:=Zh (rA b R peer ss _ KG.o hI hS.short);clear FV hI hS lA hR sB Cm Bh;generalize owned R peer ss=O at *
  cases O with
  | false=>
   have HX:Hid (X=(([],R),1)):=by show _=_;rw [VA.o];rfl
   exact Yx64
  | true=>
   have HX:Hid (X=(([],R),0)):=by show _=_;rw [VA.o];rfl
   exact Yx64
 by_cases wP:kd=205
 ·subst wP;exact Yx83
 by_cases sQ:kd=206
 ·subst sQ;exact Yx83
 have e1:(kd == 200)=false:=by rw [WR];exact Mh
 have e2:(kd == 205)=false:=by rw [WR];exact wP
 have e3:(kd == 206)=false:=by rw [WR];exact sQ
 have MO:Hid (X=if kd=203 then Ze peer gn R else (([],R),0)):=by show _=_;rw [FV.o,Z4 Mh,Z4 Zo]
 clear FV sB Cm;by_cases IC:kd=203
 rotate_left
 ·have HX:Hid (X=(([],R),0)):=by show _=_;rw [MO.o,Z4 IC]
  have e4:(kd == 203)=false:=by rw [WR];exact IC
  have e5:(kd != 203)=true:=by rw [RQ];exact IC
  have RM:=V6;clear MO lA hI hS hR;go_enter Tryz.func108,Tryz.ntmps108;go_wp2_with fail
  go_ret2
  exact ⟨⟨.slice none 0 0,by rw [HX.o];rfl,by rw [HX.o];exact Row.nil _ _⟩,by rw [HX.o];exact HR.o.below RM.o,Fr.Z7 _ RM.o⟩
 subst IC;have HX:Hid (X=Ze peer gn R):=by show _=_;rw [MO.o,ZR rfl]
 have HGR:=Zh lA;have HTY:Hid (∀ k c fr,k=b→w.heap[k]?≠some (.cells c 66 fr)):=hR.FO Zd
 have eY:Hid (∀ j,Inv (Ze peer (gn.take j) R).1.2∧(Ze peer (gn.take j) R).1.1.length≤18*(gn.take j).length∧0≤(Ze peer (gn.take j) R).2∧(Ze peer (gn.take j) R).2≤(gn.take j).length):=fun j=>by
  have h:=QQ peer (gn.take j) R hI hS;exact ⟨h.1,h.2.2⟩
 clear MO lA hI hS e1 e2 e3 Mh wP sQ;go_enter Tryz.func108,Tryz.ntmps108;go_wp2_with fail
 go_loopw [6,7,45] (fun s6 s7 s45 w'=>∃ j:Nat,j≤gn.length∧s45 = .int .i64 (j:Int)∧s7 = .int .i64 (Ze peer (gn.take j) R).2∧Fr w (· = b) w w'∧ZT w' b (Ze peer (gn.take j) R).1.2∧w'.ownsRow w 158 5 s6 (Ze peer (gn.take j) R).1.1.length ((Ze peer (gn.take j) R).1.1.flatMap Z9)) (fun _ _ s45 _=>gn.length-(intOf s45).toNat)
 case atStart=>exact ⟨0,Zo,rfl,rfl,Fr.Z7 _ V6.o,KG.o,TY _ _ _ _⟩
 case round=>
  obtain ⟨j,hj,rfl,rfl,Wu,Xp,YH⟩:=hrel;have T8:=Zh Wu;have Xy:=Zh Xp;have Yh:=Zh YH;have TR:=Wu.size;obtain ⟨oa,oc',hs6,-⟩:=Row.Z6 YH;subst hs6;clear Wu Xp YH;by_cases RV:j<gn.length
  ·have ZY:=HGR.o.fr T8.o (Zw _) HTY.o;obtain ⟨g',off',cap',e1,-,-,hg',Yu⟩:=Rm.NC (l:=gn) ZY Zo;cases e1;have hc:=Yu j RV;have HT:=Zh (Hl RV);have zV:=eY.o j;have j3:=vT;rw [S4] at zV;obtain ⟨-,hi2,hi3,hi4⟩:=zV;clear Yu ZY;generalize gn.getD j 0=p at *
   have HS:=Zh (Oi peer p (gn.take j) R);have CG:=Zh (yH b (Ze peer (gn.take j) R).1.2 peer p wr Xy.o);have Bt:=L6 (Ze peer (gn.take j) R).1.2 peer p;generalize Ze peer (gn.take j) R=G at *
   generalize YS G.1.2 peer p=Y at *
   obtain ⟨⟨Y1,Y2⟩,ye⟩:=Y;obtain ⟨⟨G1,G2⟩,gu⟩:=G;dsimp only at CG HS Bt Xy Yh hi2 hi3 hi4;by_cases hye:ye=0
   ·subst hye;have QC:Hid (Ze peer (gn.take j++[p]) R=((G1++Y1,Y2),gu)):=by show _=_;rw [HS.o];simp [vS]
    exact Yx40
   ·have FN:(ye == 0)=false:=by rw [WR];exact hye
    have dv:(ye != 0)=true:=by rw [RQ];exact hye
    have QC:Hid (Ze peer (gn.take j++[p]) R=((G1++Y1,Y2),gu+1)):=by show _=_;rw [HS.o];simp [vS,hye]
    exact Yx40
  ·have Mc:j=gn.length:=by omega
   have hT:gn.take j=gn:=by rw [Mc,nv]
   rw [hT] at Xy Yh ⊢;clear eY HGR;generalize Ze peer gn R=G at *
   go_wp2
   go_ret2
   exact ⟨⟨_,by rw [HX.o];rfl,by rw [HX.o];exact Row.Z6 Yh.o⟩,by rw [HX.o];exact Xy.o,T8.o⟩
end Go.Proofs.By
