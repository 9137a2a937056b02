/- Part of a proof. -/
import Derived.Test.YtpdjhlcbcomdkaaGreatDoorChecked
import Derived.Test.YtpdjhlcbcomdkaaGreatDoorF24
set_option linter.unusedVariables false
set_option linter.unusedSimpArgs false
set_option maxRecDepth 100000
set_option maxHeartbeats 16000000
open Go Go.Q Go.Qr
namespace Go.Proofs.By
open Go.RowKit Go.Proofs.Heap
theorem A4 (v:Value) (w:World):(Instr.typeAssert (.iface 213 v) 188 97 true).run Tryz.prog w = .ok (.tuple (Qx R7 false)) w:=by kernel_rfl
theorem nJ (v:Value) (w:World):(Instr.typeAssert (.iface 213 v) 188 213 true).run Tryz.prog w = .ok (.tuple #[v,.bool true]) w:=by kernel_rfl
theorem II {P:Program} {fn:Func} {p q u:Tmp} {t1 t2:TypeId} (h:fn.results=#[.cell p t1,.cell q t2,.tmp u]) (tmps:Array Value) (w:World) (g1 g2:Nat) (e1 e2:TypeId) (c1 c2:Array Value) (f1 f2:Nat × Nat) (d1 d2:TypeDesc)
  (hp:tmps.getD p undef = .pointer (some ⟨g1,0,none⟩)) (hg:w.heap[g1]?=some (.cells c1 e1 f1)) (hu:P.underlying t1=some d1) (hd:(match d1 with | .struct _ | .array _ _=>true|_=>false)=true) (hi:(P.info? t1).map (·.size)=some c1.size)
  (dg:tmps.getD q undef = .pointer (some ⟨g2,0,none⟩)) (rY:w.heap[g2]?=some (.cells c2 e2 f2)) (hu2:P.underlying t2=some d2) (GD:(match d2 with | .struct _ | .array _ _=>true|_=>false)=true) (hi2:(P.info? t2).map (·.size)=some c2.size) :
  (results fn tmps).run P w = .ok (.tuple #[.agg c1,.agg c2,tmps.getD u undef]) w:=by
 have Bw:tmps[p]?.getD undef = .pointer (some ⟨g1,0,none⟩):=by simpa using hp
 have oL:tmps[q]?.getD undef = .pointer (some ⟨g2,0,none⟩):=by simpa using dg
 simp [results,h,Bw,oL,asAddr,run_loadVar_row w g1 e1 t1 c1 f1 d1 hg hu hd hi,run_loadVar_row w g2 e2 t2 c2 f2 d2 rY hu2 GD hi2]
theorem pX (iv:Value) (l:List R6) (w:World) (hv:YV w iv l) (VU:∀ i∈l,TP i) (hl:l.length≤1000) :
  Calls Tryz.prog 107 #[.iface 213 (.agg #[iv])] w fun e w'=>(∃ v',e = .returned (.tuple #[.agg Wi,.agg (Qd 0 false false 0),v'])∧YV w' v' l)∧Below w w w':=by
 obtain ⟨ia,ic,rfl⟩:=YV.form hv
 have CO:=Zh (fun (w':World) (h:Below w w w')=>DF (.slice ia l.length ic) l w' (hv.below h) VU hl)
 have as1:=A4
 have as2:=nJ
 have e1:(w.alloc (.cells Wi 79)).heap.size=w.heap.size+1:=by show (w.heap.push _).size=_;rw [Rg]
 have e2:((w.alloc (.cells Wi 79)).alloc (.cells (Qd 0 false false 0) 81)).heap.size=w.heap.size+2:=by show ((w.heap.push _).push _).size=_;rw [Rg,Rg]
 have e3:(((w.alloc (.cells Wi 79)).alloc (.cells (Qd 0 false false 0) 81)).alloc (.cells R7 97)).heap.size=w.heap.size+3:=by show (((w.heap.push _).push _).push _).size=_;rw [Rg,Rg,Rg]
 have hP:(((w.alloc (.cells Wi 79)).alloc (.cells (Qd 0 false false 0) 81)).alloc (.cells R7 97)).heap[w.heap.size]?=some (.cells Wi 79 (0,0)):=by
  rw [(Z' ((w.alloc (.cells Wi 79)).alloc (.cells (Qd 0 false false 0) 81)) _).block _ (by rw [e2];omega),(Z' (w.alloc (.cells Wi 79)) _).block _ (by rw [e1];omega)]
  exact Z5 w _
 have hD:(((w.alloc (.cells Wi 79)).alloc (.cells (Qd 0 false false 0) 81)).alloc (.cells R7 97)).heap[w.heap.size+1]?=some (.cells (Qd 0 false false 0) 81 (0,0)):=by
  rw [(Z' ((w.alloc (.cells Wi 79)).alloc (.cells (Qd 0 false false 0) 81)) _).block _ (by rw [e2];omega)]
  have h:=Z5 (w.alloc (.cells Wi 79)) (.cells (Qd 0 false false 0) 81)
  rw [e1] at h
  exact h
 have hM:(((w.alloc (.cells Wi 79)).alloc (.cells (Qd 0 false false 0) 81)).alloc (.cells R7 97)).heap[w.heap.size+2]?=some (.cells R7 97 (0,0)):=by
  have h:=Z5 ((w.alloc (.cells Wi 79)).alloc (.cells (Qd 0 false false 0) 81)) (.cells R7 97)
  rw [e2] at h
  exact h
 have hP2:((((w.alloc (.cells Wi 79)).alloc (.cells (Qd 0 false false 0) 81)).alloc (.cells R7 97)).setRow (w.heap.size+2) R7).heap[w.heap.size]?=some (.cells Wi 79 (0,0)):=(setRow_other _ _ _ _ Zo).trans hP
 have iM:((((w.alloc (.cells Wi 79)).alloc (.cells (Qd 0 false false 0) 81)).alloc (.cells R7 97)).setRow (w.heap.size+2) R7).heap[w.heap.size+1]?=some (.cells (Qd 0 false false 0) 81 (0,0)):=(setRow_other _ _ _ _ Zo).trans hD
 have wR:Hid (Below w w ((((w.alloc (.cells Wi 79)).alloc (.cells (Qd 0 false false 0) 81)).alloc (.cells R7 97)).setRow (w.heap.size+2) R7)):=Z0 (ZA (ZA (Z' w _) (ZB _) _) (ZB _) _) Zo _
 clear hv VU hl e1 e2 e3 hP hD
 go_enter Tryz.func107,Tryz.ntmps107
 go_upto_region 4 with (with_reducible refine ZY 97 (.tmp 5) (.tmp 12) rfl ?_;refine ZW rfl 97 (.tmp 5) (.tmp 12) rfl rfl (w.heap.size+2) R7 rfl rfl 97 R7 hM Zg Zg Zg ?_)
 clear hM
 generalize ((((w.alloc (.cells Wi 79)).alloc (.cells (Qd 0 false false 0) 81)).alloc (.cells R7 97)).setRow (w.heap.size+2) R7)=w3 at *
 have hl3:=ZQ hP2
 have hl4:=ZQ iM
 have Ur:Hid (Below w3 w3 (w3.alloc (.cells #[.slice ia l.length ic] 213))):=Z' w3 _
 have Dt:Hid (Below w w (w3.alloc (.cells #[.slice ia l.length ic] 213))):=wR.o.trans (Ur.o.mono wR.o.size)
 have hP4:=(Ur.o.block _ hl3).trans hP2
 have hD4:=(Ur.o.block _ hl4).trans iM
 have hl5:=ZQ hP4
 have hl6:=ZQ hD4
 clear hP2 iM hl3 hl4
 go_wp2_with (first|(go_at_call 129;refine (CO.o _ Dt.o).mono ?_;rintro e w5 ⟨⟨v',rfl,hit⟩,LM⟩;obtain ⟨ja,jc,hjv⟩:=YV.form hit;subst hjv;have hP5:=(LM.block _ hl5).trans hP4;have hD5:=(setRow_other w5 w.heap.size (w.heap.size+1) Wi Zo).trans ((LM.block _ hl6).trans hD4);have T9:=Zh (Dt.o.trans (LM.mono Dt.o.size));have He:=Zh hit;clear LM hit)|(with_reducible refine ZY 79 (.tmp 2) (.tmp 26) rfl ?_;refine ZW rfl 79 (.tmp 2) (.tmp 26) rfl rfl w.heap.size Wi rfl rfl 79 Wi hP5 Zg Zg Zg ?_)|(with_reducible refine ZY 81 (.tmp 3) (.tmp 27) rfl ?_;refine ZW rfl 81 (.tmp 3) (.tmp 27) rfl rfl (w.heap.size+1) (Qd 0 false false 0) rfl rfl 81 (Qd 0 false false 0) hD5 Zg Zg Zg ?_))
 refine VR (v:= .tuple #[.agg Wi,.agg (Qd 0 false false 0),.slice ja l.length jc]) ?_ rfl ?_
 ·refine (II (p:=2) (q:=3) (u:=4) (t1:=79) (t2:=81) rfl _ _ w.heap.size (w.heap.size+1) 79 81 Wi (Qd 0 false false 0) (0,0) (0,0) _ _ Zr ((setRow_other _ _ _ _ Zo).trans (setRow_heap _ _ _ _ _ _ hP5)) Tryz.underlying79 rfl Zg Zr (setRow_heap _ _ _ _ _ _ hD5) Tryz.underlying81 rfl Zg).trans ?_
  rfl
 refine ⟨⟨_,rfl,?_⟩,Z0 (Z0 T9.o (ZB _) _) (JK _) _⟩
 have k1:YV (w5.setRow w.heap.size Wi) (.slice ja l.length jc) l:=He.o.fr (We w5 _ _) (fun k hk=>by have hk:k=w.heap.size:=hk;subst hk;exact ⟨_,_,_,hP5,by decide,by decide,by decide,by decide,by decide,by decide,by decide⟩)
 exact k1.fr (We _ _ _) (fun k hk=>by have hk:k=w.heap.size+1:=hk;subst hk;exact ⟨_,_,_,hD5,by decide,by decide,by decide,by decide,by decide,by decide,by decide⟩)
open Go.Proofs.Rm (WB)
theorem Cr (n:Int) (w:World):Calls Tryz.prog 66 (Qz n 8) w fun e w'=>e = .returned (.bool (WB n 9))∧w=w':=by
 have HW:Hid (WB n 9=(decide (1≤n) && decide (n<9))):=rfl
 generalize WB n 9=x at *
 by_cases h1:1≤n
 ·have HF:Hid (x=decide (n≤8)):=by show _=_;rw [HW.o,Ws h1];simp only [Bool.true_and];exact decide_eq_decide.2 Zo
  have d1:decide (1≤n)=true:=Ws h1
  clear HW
  go_enter Tryz.func66,Tryz.ntmps66
  go_wp2
  go_ret
  exact ⟨YB HF.o.symm,rfl⟩
 ·have HF:Hid (x=false):=by show _=_;rw [HW.o,WN h1];simp
  have d1:decide (1≤n)=false:=WN h1
  clear HW
  go_enter Tryz.func66,Tryz.ntmps66
  go_wp2
  go_ret
  exact ⟨YB HF.o.symm,rfl⟩
theorem Md {a b:Int} (h:a=b):Ending.returned (.int .u32 a) = .returned (.int .u32 b):=by rw [h]
theorem tM (p s:Int) (w:World):Calls Tryz.prog 37 (Qz p s) w fun e w'=>e = .returned (.int .u32 (V_ p s))∧w=w':=by
 have CP:=Zh (Cr p w)
 have CS:=Zh (Cr s w)
 cases h1:WB p 9
 ·have HF:Hid (V_ p s=0):=by show _=_;unfold V_;rw [h1];rfl
  rw [h1] at CP
  generalize V_ p s=x at *
  clear CS h1
  go_enter Tryz.func37,Tryz.ntmps37
  go_wp2_with (go_at_call 66;refine CP.o.mono ?_;rintro e w' ⟨rfl,rfl⟩)
  go_ret
  exact ⟨Md HF.o.symm,rfl⟩
 ·cases h2:WB s 9
  ·have HF:Hid (V_ p s=0):=by show _=_;unfold V_;rw [h1,h2];rfl
   rw [h1] at CP
   rw [h2] at CS
   generalize V_ p s=x at *
   clear h1 h2
   go_enter Tryz.func37,Tryz.ntmps37
   go_wp2_with fail
   refine CP.o.mono ?_;rintro e w' ⟨rfl,rfl⟩
   go_wp2_with fail
   refine CS.o.mono ?_;rintro e w' ⟨rfl,rfl⟩
   go_wp2_with fail
   go_ret
   exact ⟨Md HF.o.symm,rfl⟩
  ·have HF:Hid (V_ p s=3221225472+(256*p+s)):=by show _=_;unfold V_;rw [h1,h2];rfl
   rw [h1] at CP
   rw [h2] at CS
   obtain ⟨b1,b2⟩:=XO.1 h1
   obtain ⟨b3,b4⟩:=XO.1 h2
   generalize V_ p s=x at *
   clear h1 h2
   go_enter Tryz.func37,Tryz.ntmps37
   go_wp2_with fail
   refine CP.o.mono ?_;rintro e w' ⟨rfl,rfl⟩
   go_wp2_with fail
   refine CS.o.mono ?_;rintro e w' ⟨rfl,rfl⟩
   go_wp2_with fail
   go_ret
   exact ⟨Md (by rw [HF.o]),rfl⟩
theorem zR (x:Int) (w:World) (h0:0≤x) (h1:x<4294967296) :
  Calls Tryz.prog 160 #[.int .u32 x] w fun e w'=>e = .returned (.tuple (Q1 (VL x).1 (VL x).2.1 (VL x).2.2))∧w=w':=by
 have hw:IntKind.u32.wrap (x-3221225472)=(x+1073741824) % 4294967296:=by rw [NC];omega
 have HE:Hid (VL x=if WB ((x+1073741824) % 4294967296 / 256) 9 && WB ((x+1073741824) % 4294967296 % 256) 9 then ((x+1073741824) % 4294967296 / 256,(x+1073741824) % 4294967296 % 256,true) else (0,0,false)):=rfl
 have hx:∀ n:Int,n=(x+1073741824) % 4294967296→WB (n / 256) 9=true→WB (n % 256) 9=true→3221225472+(256*(n / 256)+n % 256)=x:=fun n hn ha hb=>by
  rw [XO] at ha hb;omega
 have Ri:0≤(x+1073741824) % 4294967296:=by omega
 have Zj:(x+1073741824) % 4294967296<4294967296:=by omega
 generalize VL x=X at *
 generalize (x+1073741824) % 4294967296=n at *
 have CO:=Zh (tM (n / 256) (n % 256) w)
 have hq0:0≤n / 256:=by omega
 have hq1:n / 256<16777216:=by omega
 have hr0:0≤n % 256:=by omega
 have jB:n % 256<256:=by omega
 by_cases hc:(WB (n / 256) 9 && WB (n % 256) 9)=true
 ·have hX:X=(n / 256,n % 256,true):=by rw [HE.o,ZX hc]
  subst hX
  have MP:=hc
  rw [Ui] at MP
  have e:V_ (n / 256) (n % 256)=x:=by unfold V_;rw [ZX hc,hx n rfl MP.1 MP.2]
  rw [e] at CO
  have Xh:3221225472≤x:=by have:=hx n rfl MP.1 MP.2;omega
  have b1:(x == 0)=false:=by rw [WT];omega
  have b2:(x != x)=false:=by simp
  clear HE hx hc MP e
  exact kY
 ·have hX:X=(0,0,false):=by rw [HE.o,Z6 hc]
  subst hX
  have e:V_ (n / 256) (n % 256)=0:=by unfold V_;rw [Z6 hc]
  rw [e] at CO
  clear HE hx hc e
  exact kY
end Go.Proofs.By
namespace Go.Proofs.By
open Go.RowKit Go.Proofs.Heap
open Go.Proofs.Rm (YM YE Room Z4 Inv of Ra of_lt KE O0 I7 ZH)
theorem uQ (b:Nat) (R:Room) (peer x:Int) (w:World) (hR:Z4 w b R) (hI:Inv R) (hl:∀ n,(R.src n).ss.length≤1000000) :
  Calls Tryz.prog 130 (Q8 (some ⟨b,0,none⟩) peer x) w fun e w'=>(∃ n l:Int,e = .returned (.tuple (Q1 n l (owned R peer x))))∧Below w w w':=by
 obtain ⟨n,O2,O3,hO⟩:∃ (n:Nat) (O2:Int) (O3:Bool),of R x=((n:Int),O2,O3):=⟨(of R x).1.toNat,(of R x).2.1,(of R x).2.2,by rw [Int.toNat_of_nonneg (of_lt R x).1]⟩
 have HX:Hid (owned R peer x=(O3 && decide ((R.src n).own=peer))):=by
  show _=_
  unfold owned
  rw [hO]
  rfl
 have eI:Hid (O3=true→(R.src n).there=true):=by
  show _→_
  intro h3
  obtain ⟨m,_,h1,_,h2⟩:=Ra (R:=R) (x:=x) (by rw [hO];exact h3)
  rw [hO] at h2
  have h4:(n:Int)=(m:Int):=congrArg (·.1) h2
  have h4:n=m:=by omega
  rw [h4];exact h1
 have dY:Hid (Calls Tryz.prog 127 (Jc (some ⟨b,0,none⟩) x) w fun e w'=>e = .returned (.tuple (Q1 (n:Int) O2 O3))∧Below w w w'):=by
  have h:=KE b R x w hR
  rw [hO] at h
  exact h
 have dZ:=Zh (fun (w2:World) (h:Below w w w2)=>O0 b R n w2 (hR.below h) hI hl)
 generalize owned R peer x=X at *
 clear hO hR hI hl
 cases O3 with
 | false=>
  have qC:Hid (X=false):=by show _=_;rw [HX.o];rfl
  clear HX eI
  go_enter Tryz.func130,Tryz.ntmps130
  go_wp2_with (first|(go_at_call 127;refine dY.o.mono ?_;rintro e w2 ⟨rfl,Y0⟩;have XA:=Zh Y0;clear Y0)|(go_at_call 81;refine (dZ.o _ XA.o).mono ?_;rintro e w3 ⟨⟨nm,ow,a,k,c,mu,has,rfl,GG,Fv⟩,Ut⟩;have T_:=Zh (XA.o.trans (Ut.mono XA.o.size));clear Ut GG Fv))
  go_ret3
  exact ⟨⟨0,0,by rw [qC.o];rfl⟩,ZA T_.o (ZB _) _⟩
 | true=>
  by_cases hp:(R.src n).own=peer
  ·have qC:Hid (X=true):=by show _=_;rw [HX.o,Ws hp];rfl
   have HP:=Zh hp
   clear HX hp
   go_enter Tryz.func130,Tryz.ntmps130
   go_wp2_with (first|(go_at_call 127;refine dY.o.mono ?_;rintro e w2 ⟨rfl,Y0⟩;have XA:=Zh Y0;clear Y0)|(go_at_call 81;refine (dZ.o _ XA.o).mono ?_;rintro e w3 ⟨⟨nm,ow,a,k,c,mu,has,rfl,GG,Fv⟩,Ut⟩;have T_:=Zh (XA.o.trans (Ut.mono XA.o.size));have vG:ow=peer:=((Fv (by rw [GG];exact eI.o DJ)).trans HP.o);have Aw:(ow != peer)=false:=(by rw [vG];simp);have bZ:(ow == peer)=true:=(by rw [vG];simp);clear Ut GG Fv vG))
   go_ret3
   exact ⟨⟨(n:Int),O2,by rw [qC.o];rfl⟩,ZA T_.o (ZB _) _⟩
  ·have qC:Hid (X=false):=by show _=_;rw [HX.o,WN hp];rfl
   have HP:=Zh hp
   clear HX hp
   go_enter Tryz.func130,Tryz.ntmps130
   go_wp2_with (first|(go_at_call 127;refine dY.o.mono ?_;rintro e w2 ⟨rfl,Y0⟩;have XA:=Zh Y0;clear Y0)|(go_at_call 81;refine (dZ.o _ XA.o).mono ?_;rintro e w3 ⟨⟨nm,ow,a,k,c,mu,has,rfl,GG,Fv⟩,Ut⟩;have T_:=Zh (XA.o.trans (Ut.mono XA.o.size));have vG:=Fv (by rw [GG];exact eI.o DJ);have Xh:ow≠peer:=(by rw [vG];exact HP.o);have Aw:(ow != peer)=true:=(by rw [TF];exact Xh);have bZ:(ow == peer)=false:=(by rw [WT];exact Xh);clear Ut GG Fv vG Xh))
   go_ret3
   exact ⟨⟨0,0,by rw [qC.o];rfl⟩,ZA T_.o (ZB _) _⟩
theorem uP (b:Nat) (R:Room) (peer x:Int) (w:World) (hR:Z4 w b R) (h0:0≤x) (h1:x<4294967296) :
  Calls Tryz.prog 131 (Q8 (some ⟨b,0,none⟩) peer x) w fun e w'=>(∃ n:Int,e = .returned (.tuple (Q7 n (Ve R peer x))))∧Below w w w':=by
 have CW:=Zh (zR x w h0 h1)
 have HX:Hid (Ve R peer x=((VL x).2.2 && decide ((VL x).1=peer) && ZH R peer (VL x).2.1)):=rfl
 generalize VL x=W at *
 obtain ⟨wp,ws,wk⟩:=W
 dsimp only at CW HX
 have CS:=Zh (I7 b R peer ws w hR)
 generalize Ve R peer x=X at *
 generalize ZH R peer ws=hv at *
 generalize (R.sub ws.toNat peer.toNat).want=s1 at *
 generalize (R.sub ws.toNat peer.toNat).ZR=s2 at *
 clear hR h0 h1
 cases wk with
 | false=>
  have qC:Hid (X=false):=by show _=_;rw [HX.o];rfl
  clear HX
  cases hv with
  | false=>
   rw [Z6 Zi] at CS
   exact qP
  | true=>
   rw [ZX rfl] at CS
   exact qP
 | true=>
  by_cases hp:wp=peer
  ·subst hp
   cases hv with
   | false=>
    have qC:Hid (X=false):=by show _=_;rw [HX.o];simp
    rw [Z6 Zi] at CS
    clear HX
    exact qP
   | true=>
    have qC:Hid (X=true):=by show _=_;rw [HX.o];simp
    rw [ZX rfl] at CS
    clear HX
    go_enter Tryz.func131,Tryz.ntmps131
    go_wp2_with (first|(go_at_call 160;refine CW.o.mono ?_;rintro e w2 ⟨rfl,rfl⟩)|(go_at_call 83;refine CS.o.mono ?_;rintro e w3 ⟨rfl,Ut⟩;have T_:=Zh Ut;clear Ut))
    go_ret2
    exact ⟨⟨ws,by rw [qC.o];rfl⟩,ZA T_.o (ZB _) _⟩
  ·have qC:Hid (X=false):=by show _=_;rw [HX.o,WN hp];simp
   have Aw:(wp != peer)=true:=by rw [TF];exact hp
   have bZ:(wp == peer)=false:=by rw [WT];exact hp
   clear HX hp
   cases hv with
   | false=>
    rw [Z6 Zi] at CS
    exact qP
   | true=>
    rw [ZX rfl] at CS
    exact qP
open Go.Proofs.Rm (WZ Zb Z_ XU Wf Yk Yj Yw Y7 AK MV Oq)
theorem IW {l:List Int} {k:Nat} (h:k<l.length):l.take (k+1)=l.take k++[l.getD k 0]:=by
 rw [List.take_succ_eq_append_getElem h,Sq,VQ h];rfl
theorem yA (b:Nat) (R:Room) (peer:Int) (x:Sz) (w:World) (hR:Z4 w b R) (hI:Inv R) (hS:WZ R) (VU:TP x.i) (hx:UY w x) :
  Calls Tryz.prog 108 (Jg (some ⟨b,0,none⟩) peer (Y6 x).toArray) w fun e w'=>
   (∃ v,e = .returned (.tuple #[v,.int .i64 (Yr R peer x.i).2])∧YM w' v (Yr R peer x.i).1.1)∧Z4 w' b (Yr R peer x.i).1.2∧Fr w (· = b) w w':=by
 obtain ⟨i,bv,gv,pv⟩:=x
 obtain ⟨ba,bc,rW⟩:=Row.form hx.b
 obtain ⟨ga,gc,yT⟩:=Row.form hx.g
 obtain ⟨pa,pc,NR⟩:=Row.form hx.p
 have pO:=hx.g
 obtain ⟨kd,ss,nt,tm,pk,oc,bs,gn,md,ps⟩:=i
 have vE:=VU.m0
 have Az:=VU.m1
 have Fq:=VU.g
 clear VU hx
 dsimp only at rW yT NR pO vE Az Fq ⊢
 subst rW;subst yT;subst NR
 dsimp only [Y6]
 have Wy:Hid (Below w w (w.alloc (.cells (Qc kd ss nt tm pk oc ba bs.length bc ga gn.length gc md pa ps.length pc) 173))):=Z' w _
 have hz:=Z5 w (.cells (Qc kd ss nt tm pk oc ba bs.length bc ga gn.length gc md pa ps.length pc) 173)
 have HR:=Zh hR
 have MC:=Zh (hR.below Wy.o)
 have hb:=hR.lt
 have He:Hid (Yr R peer ⟨kd,ss,nt,tm,pk,oc,bs,gn,md,ps⟩=if kd=200 then (([],R),if owned R peer ss then 0 else 1) else if kd=205∨kd=206 then (([],R),if Ve R peer md then 0 else 1) else if kd=203 then Zv peer gn R else (([],R),0)):=rfl
 generalize Yr R peer ⟨kd,ss,nt,tm,pk,oc,bs,gn,md,ps⟩=X at *
 generalize bs.length=bl at *
 generalize ps.length=pl at *
 by_cases MX:kd=200
 ·subst MX
  have SM:Hid (X=(([],R),if owned R peer ss then 0 else 1)):=by show _=_;rw [He.o];simp
  have CO:=Zh (uQ b R peer ss _ MC.o hI hS.short)
  clear He hI hS pO hR vE Az Fq
  generalize owned R peer ss=O at *
  cases O with
  | false=>
   have HX:Hid (X=(([],R),1)):=by show _=_;rw [SM.o];rfl
   exact a_
  | true=>
   have HX:Hid (X=(([],R),0)):=by show _=_;rw [SM.o];rfl
   exact a_
 by_cases zm:kd=205
 ·subst zm
  exact bj
 by_cases vQ:kd=206
 ·subst vQ
  exact bj
 have e1:(kd == 200)=false:=by rw [WT];exact MX
 have e2:(kd == 205)=false:=by rw [WT];exact zm
 have e3:(kd == 206)=false:=by rw [WT];exact vQ
 have Lc:Hid (X=if kd=203 then Zv peer gn R else (([],R),0)):=by show _=_;rw [He.o,Z6 MX,Z6 Zo]
 clear He vE Az
 by_cases JP:kd=203
 rotate_left
 ·have HX:Hid (X=(([],R),0)):=by show _=_;rw [Lc.o,Z6 JP]
  have e4:(kd == 203)=false:=by rw [WT];exact JP
  have e5:(kd != 203)=true:=by rw [TF];exact JP
  have T9:=Wy
  clear Lc pO hI hS hR
  go_enter Tryz.func108,Tryz.ntmps108
  go_wp2_with fail
  go_ret2
  exact ⟨⟨.slice none 0 0,by rw [HX.o];rfl,by rw [HX.o];exact Row.nil _ _⟩,by rw [HX.o];exact HR.o.below T9.o,Fr.Z9 _ T9.o⟩
 subst JP
 have HX:Hid (X=Zv peer gn R):=by show _=_;rw [Lc.o,ZX rfl]
 have HGR:=Zh pO
 have HTY:Hid (∀ k c fr,k=b→w.heap[k]?≠some (.cells c 66 fr)):=hR.G' Zd
 have ku:Hid (∀ j,Inv (Zv peer (gn.take j) R).1.2∧(Zv peer (gn.take j) R).1.1.length≤18*(gn.take j).length∧0≤(Zv peer (gn.take j) R).2∧(Zv peer (gn.take j) R).2≤(gn.take j).length):=fun j=>by
  have h:=Rt peer (gn.take j) R hI hS
  exact ⟨h.1,h.2.2⟩
 clear Lc pO hI hS e1 e2 e3 MX zm vQ
 go_enter Tryz.func108,Tryz.ntmps108
 go_wp2_with fail
 go_loopw [6,7,45] (fun s6 s7 s45 w'=>∃ j:Nat,j≤gn.length∧s45 = .int .i64 (j:Int)∧s7 = .int .i64 (Zv peer (gn.take j) R).2∧Fr w (· = b) w w'∧Z4 w' b (Zv peer (gn.take j) R).1.2∧w'.ownsRow w 158 5 s6 (Zv peer (gn.take j) R).1.1.length ((Zv peer (gn.take j) R).1.1.flatMap Z_)) (fun _ _ s45 _=>gn.length-(intOf s45).toNat)
 case atStart=>exact ⟨0,Zo,rfl,rfl,Fr.Z9 _ Wy.o,MC.o,Us _ _ _ _⟩
 case round=>
  obtain ⟨j,hj,rfl,rfl,Xm,XE,YO⟩:=hrel
  have U5:=Zh Xm
  have Yg:=Zh XE
  have Yu:=Zh YO
  have Vr:=Xm.size
  obtain ⟨oa,oc',hs6,-⟩:=Row.ZV YO
  subst hs6
  clear Xm XE YO
  by_cases Oh:j<gn.length
  ·have Z7:=HGR.o.fr U5.o (ZB _) HTY.o
   obtain ⟨g',off',cap',e1,-,-,cD,YX⟩:=Rm.RQ (l:=gn) Z7 Zo
   cases e1
   have hc:=YX j Oh
   have HT:=Zh (IW Oh)
   have yV:=ku.o j
   have oD:=yK
   rw [TU] at yV
   obtain ⟨-,hi2,hi3,hi4⟩:=yV
   clear YX Z7
   generalize gn.getD j 0=p at *
   have HS:=Zh (O_ peer p (gn.take j) R)
   have CG:=Zh (AK b (Zv peer (gn.take j) R).1.2 peer p wr Yg.o)
   have EW:=ML (Zv peer (gn.take j) R).1.2 peer p
   generalize Zv peer (gn.take j) R=G at *
   generalize Y7 G.1.2 peer p=Y at *
   obtain ⟨⟨Y1,Y2⟩,ye⟩:=Y
   obtain ⟨⟨G1,G2⟩,gu⟩:=G
   dsimp only at CG HS EW Yg Yu hi2 hi3 hi4
   by_cases hye:ye=0
   ·subst hye
    have uM:Hid (Zv peer (gn.take j++[p]) R=((G1++Y1,Y2),gu)):=by show _=_;rw [HS.o];simp [Dg]
    exact aU
   ·have G_:(ye == 0)=false:=by rw [WT];exact hye
    have jt:(ye != 0)=true:=by rw [TF];exact hye
    have uM:Hid (Zv peer (gn.take j++[p]) R=((G1++Y1,Y2),gu+1)):=by show _=_;rw [HS.o];simp [Dg,hye]
    exact aU
  ·have vB:j=gn.length:=by omega
   have hT:gn.take j=gn:=by rw [vB,qX]
   rw [hT] at Yg Yu ⊢
   clear ku HGR
   generalize Zv peer gn R=G at *
   go_wp2
   go_ret2
   exact ⟨⟨_,by rw [HX.o];rfl,by rw [HX.o];exact Row.ZV Yu.o⟩,by rw [HX.o];exact Yg.o,U5.o⟩
end Go.Proofs.By
