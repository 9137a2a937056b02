/- Part of a proof. -/
import Derived.Test.YtpdjhlcbcomdkaaGreatDoorChecked
import Derived.Test.YtpdjhlcbcomdkaaGreatDoorW22
set_option linter.unusedVariables false
set_option linter.unusedSimpArgs false
set_option maxRecDepth 100000
set_option maxHeartbeats 16000000
open Go Go.Q Go.Qr
namespace Go.Proofs.By
open Go.RowKit Go.Proofs.Heap
theorem zL (v:Value) (w:World):(Instr.typeAssert (.iface 213 v) 188 97 true).run Tryz.prog w = .ok (.tuple (Qy UW false)) w:=by kernel_rfl
theorem j5 (v:Value) (w:World):(Instr.typeAssert (.iface 213 v) 188 213 true).run Tryz.prog w = .ok (.tuple #[v,.bool true]) w:=by kernel_rfl
theorem Hn {P:Program} {fn:Func} {p q u:Tmp} {t1 t2:TypeId} (h:fn.results=#[.cell p t1,.cell q t2,.tmp u]) (tmps:Array Value) (w:World) (g1 g2:Nat) (e1 e2:TypeId) (c1 c2:Array Value) (f1 f2:Nat × Nat) (d1 d2:TypeDesc)
  (hp:tmps.getD p undef = .pointer (some ⟨g1,0,none⟩)) (hg:w.heap[g1]?=some (.cells c1 e1 f1)) (hu:P.underlying t1=some d1) (hd:(match d1 with | .struct _ | .array _ _=>true|_=>false)=true) (hi:(P.info? t1).map (·.size)=some c1.size)
  (hp2:tmps.getD q undef = .pointer (some ⟨g2,0,none⟩)) (o8:w.heap[g2]?=some (.cells c2 e2 f2)) (hu2:P.underlying t2=some d2) (rz:(match d2 with | .struct _ | .array _ _=>true|_=>false)=true) (hi2:(P.info? t2).map (·.size)=some c2.size) :
  (results fn tmps).run P w = .ok (.tuple #[.agg c1,.agg c2,tmps.getD u undef]) w:=by
 have tq:tmps[p]?.getD undef = .pointer (some ⟨g1,0,none⟩):=by simpa using hp
 have lg:tmps[q]?.getD undef = .pointer (some ⟨g2,0,none⟩):=by simpa using hp2
 simp [results,h,tq,lg,asAddr,run_loadVar_row w g1 e1 t1 c1 f1 d1 hg hu hd hi,run_loadVar_row w g2 e2 t2 c2 f2 d2 o8 hu2 rz hi2]
theorem mI (iv:Value) (l:List RF) (w:World) (hv:YI w iv l) (V_:∀ i∈l,Te i) (hl:l.length≤1000) :
  Calls Tryz.prog 107 #[.iface 213 (.agg #[iv])] w fun e w'=>(∃ v',e = .returned (.tuple #[.agg VI,.agg (Qc 0 false false 0),v'])∧YI w' v' l)∧Below w w w':=by
 obtain ⟨ia,ic,rfl⟩:=YI.form hv
 have CO:=Zh (fun (w':World) (h:Below w w w')=>B0 (.slice ia l.length ic) l w' (hv.below h) V_ hl)
 have as1:=zL
 have as2:=j5
 have e1:(w.alloc (.cells VI 79)).heap.size=w.heap.size+1:=by show (w.heap.push _).size=_;rw [O6]
 have e2:((w.alloc (.cells VI 79)).alloc (.cells (Qc 0 false false 0) 81)).heap.size=w.heap.size+2:=by show ((w.heap.push _).push _).size=_;rw [O6,O6]
 have e3:(((w.alloc (.cells VI 79)).alloc (.cells (Qc 0 false false 0) 81)).alloc (.cells UW 97)).heap.size=w.heap.size+3:=by show (((w.heap.push _).push _).push _).size=_;rw [O6,O6,O6]
 have hP:(((w.alloc (.cells VI 79)).alloc (.cells (Qc 0 false false 0) 81)).alloc (.cells UW 97)).heap[w.heap.size]?=some (.cells VI 79 (0,0)):=by
  rw [(Z' ((w.alloc (.cells VI 79)).alloc (.cells (Qc 0 false false 0) 81)) _).block _ (by rw [e2];omega),(Z' (w.alloc (.cells VI 79)) _).block _ (by rw [e1];omega)]
  exact Z7 w _
 have hD:(((w.alloc (.cells VI 79)).alloc (.cells (Qc 0 false false 0) 81)).alloc (.cells UW 97)).heap[w.heap.size+1]?=some (.cells (Qc 0 false false 0) 81 (0,0)):=by
  rw [(Z' ((w.alloc (.cells VI 79)).alloc (.cells (Qc 0 false false 0) 81)) _).block _ (by rw [e2];omega)]
  have h:=Z7 (w.alloc (.cells VI 79)) (.cells (Qc 0 false false 0) 81)
  rw [e1] at h
  exact h
 have hM:(((w.alloc (.cells VI 79)).alloc (.cells (Qc 0 false false 0) 81)).alloc (.cells UW 97)).heap[w.heap.size+2]?=some (.cells UW 97 (0,0)):=by
  have h:=Z7 ((w.alloc (.cells VI 79)).alloc (.cells (Qc 0 false false 0) 81)) (.cells UW 97)
  rw [e2] at h
  exact h
 have hP2:((((w.alloc (.cells VI 79)).alloc (.cells (Qc 0 false false 0) 81)).alloc (.cells UW 97)).setRow (w.heap.size+2) UW).heap[w.heap.size]?=some (.cells VI 79 (0,0)):=(setRow_other _ _ _ _ Zo).trans hP
 have dD:((((w.alloc (.cells VI 79)).alloc (.cells (Qc 0 false false 0) 81)).alloc (.cells UW 97)).setRow (w.heap.size+2) UW).heap[w.heap.size+1]?=some (.cells (Qc 0 false false 0) 81 (0,0)):=(setRow_other _ _ _ _ Zo).trans hD
 have mJ:Hid (Below w w ((((w.alloc (.cells VI 79)).alloc (.cells (Qc 0 false false 0) 81)).alloc (.cells UW 97)).setRow (w.heap.size+2) UW)):=Z3 (ZC (ZC (Z' w _) (Zw _) _) (Zw _) _) Zo _
 clear hv V_ hl e1 e2 e3 hP hD
 go_enter Tryz.func107,Tryz.ntmps107
 go_upto_region 4 with (with_reducible refine ZU 97 (.tmp 5) (.tmp 12) rfl ?_;refine ZW rfl 97 (.tmp 5) (.tmp 12) rfl rfl (w.heap.size+2) UW rfl rfl 97 UW hM ZB ZB ZB ?_)
 clear hM
 generalize ((((w.alloc (.cells VI 79)).alloc (.cells (Qc 0 false false 0) 81)).alloc (.cells UW 97)).setRow (w.heap.size+2) UW)=w3 at *
 have hl3:=ZV hP2
 have hl4:=ZV dD
 have Uc:Hid (Below w3 w3 (w3.alloc (.cells #[.slice ia l.length ic] 213))):=Z' w3 _
 have yK:Hid (Below w w (w3.alloc (.cells #[.slice ia l.length ic] 213))):=mJ.o.trans (Uc.o.mono mJ.o.size)
 have hP4:=(Uc.o.block _ hl3).trans hP2
 have hD4:=(Uc.o.block _ hl4).trans dD
 have hl5:=ZV hP4
 have hl6:=ZV hD4
 clear hP2 dD hl3 hl4
 go_wp2_with (first|(go_at_call 129;refine (CO.o _ yK.o).mono ?_;rintro e w5 ⟨⟨v',rfl,hit⟩,Lj⟩;obtain ⟨ja,jc,hjv⟩:=YI.form hit;subst hjv;have hP5:=(Lj.block _ hl5).trans hP4;have hD5:=(setRow_other w5 w.heap.size (w.heap.size+1) VI Zo).trans ((Lj.block _ hl6).trans hD4);have R4:=Zh (yK.o.trans (Lj.mono yK.o.size));have Gd:=Zh hit;clear Lj hit)|(with_reducible refine ZU 79 (.tmp 2) (.tmp 26) rfl ?_;refine ZW rfl 79 (.tmp 2) (.tmp 26) rfl rfl w.heap.size VI rfl rfl 79 VI hP5 ZB ZB ZB ?_)|(with_reducible refine ZU 81 (.tmp 3) (.tmp 27) rfl ?_;refine ZW rfl 81 (.tmp 3) (.tmp 27) rfl rfl (w.heap.size+1) (Qc 0 false false 0) rfl rfl 81 (Qc 0 false false 0) hD5 ZB ZB ZB ?_))
 refine VJ (v:= .tuple #[.agg VI,.agg (Qc 0 false false 0),.slice ja l.length jc]) ?_ rfl ?_
 ·refine (Hn (p:=2) (q:=3) (u:=4) (t1:=79) (t2:=81) rfl _ _ w.heap.size (w.heap.size+1) 79 81 VI (Qc 0 false false 0) (0,0) (0,0) _ _ Zr ((setRow_other _ _ _ _ Zo).trans (setRow_heap _ _ _ _ _ _ hP5)) Tryz.underlying79 rfl ZB Zr (setRow_heap _ _ _ _ _ _ hD5) Tryz.underlying81 rfl ZB).trans ?_
  rfl
 refine ⟨⟨_,rfl,?_⟩,Z3 (Z3 R4.o (Zw _) _) (IP _) _⟩
 have k1:YI (w5.setRow w.heap.size VI) (.slice ja l.length jc) l:=Gd.o.fr (TD w5 _ _) (fun k hk=>by have hk:k=w.heap.size:=hk;subst hk;exact ⟨_,_,_,hP5,by decide,by decide,by decide,by decide,by decide,by decide,by decide⟩)
 exact k1.fr (TD _ _ _) (fun k hk=>by have hk:k=w.heap.size+1:=hk;subst hk;exact ⟨_,_,_,hD5,by decide,by decide,by decide,by decide,by decide,by decide,by decide⟩)
open Go.Proofs.Rm (VK)
theorem Bf (n:Int) (w:World):Calls Tryz.prog 66 (Qz n 8) w fun e w'=>e = .returned (.bool (VK n 9))∧w=w':=by
 have HW:Hid (VK n 9=(decide (1≤n) && decide (n<9))):=rfl
 generalize VK n 9=x at *
 by_cases h1:1≤n
 ·have HF:Hid (x=decide (n≤8)):=by show _=_;rw [HW.o,We h1];simp only [Bool.true_and];exact decide_eq_decide.2 Zo
  have d1:decide (1≤n)=true:=We h1
  clear HW
  go_enter Tryz.func66,Tryz.ntmps66
  go_wp2
  go_ret
  exact ⟨Xy HF.o.symm,rfl⟩
 ·have HF:Hid (x=false):=by show _=_;rw [HW.o,WB h1];simp
  have d1:decide (1≤n)=false:=WB h1
  clear HW
  go_enter Tryz.func66,Tryz.ntmps66
  go_wp2
  go_ret
  exact ⟨Xy HF.o.symm,rfl⟩
theorem LH {a b:Int} (h:a=b):Ending.returned (.int .u32 a) = .returned (.int .u32 b):=by rw [h]
theorem Hr (p s:Int) (w:World):Calls Tryz.prog 37 (Qz p s) w fun e w'=>e = .returned (.int .u32 (Xc p s))∧w=w':=by
 have CP:=Zh (Bf p w)
 have CS:=Zh (Bf s w)
 cases h1:VK p 9
 ·have HF:Hid (Xc p s=0):=by show _=_;unfold Xc;rw [h1];rfl
  rw [h1] at CP
  generalize Xc p s=x at *
  clear CS h1
  go_enter Tryz.func37,Tryz.ntmps37
  go_wp2_with (go_at_call 66;refine CP.o.mono ?_;rintro e w' ⟨rfl,rfl⟩)
  go_ret
  exact ⟨LH HF.o.symm,rfl⟩
 ·cases h2:VK s 9
  ·have HF:Hid (Xc p s=0):=by show _=_;unfold Xc;rw [h1,h2];rfl
   rw [h1] at CP
   rw [h2] at CS
   generalize Xc p s=x at *
   clear h1 h2
   go_enter Tryz.func37,Tryz.ntmps37
   go_wp2_with fail
   refine CP.o.mono ?_;rintro e w' ⟨rfl,rfl⟩
   go_wp2_with fail
   refine CS.o.mono ?_;rintro e w' ⟨rfl,rfl⟩
   go_wp2_with fail
   go_ret
   exact ⟨LH HF.o.symm,rfl⟩
  ·have HF:Hid (Xc p s=3221225472+(256*p+s)):=by show _=_;unfold Xc;rw [h1,h2];rfl
   rw [h1] at CP
   rw [h2] at CS
   obtain ⟨b1,b2⟩:=Xq.1 h1
   obtain ⟨b3,b4⟩:=Xq.1 h2
   generalize Xc p s=x at *
   clear h1 h2
   go_enter Tryz.func37,Tryz.ntmps37
   go_wp2_with fail
   refine CP.o.mono ?_;rintro e w' ⟨rfl,rfl⟩
   go_wp2_with fail
   refine CS.o.mono ?_;rintro e w' ⟨rfl,rfl⟩
   go_wp2_with fail
   go_ret
   exact ⟨LH (by rw [HF.o]),rfl⟩
theorem yf (x:Int) (w:World) (h0:0≤x) (h1:x<4294967296) :
  Calls Tryz.prog 160 #[.int .u32 x] w fun e w'=>e = .returned (.tuple (Q3 (Vg x).1 (Vg x).2.1 (Vg x).2.2))∧w=w':=by
 have hw:IntKind.u32.wrap (x-3221225472)=(x+1073741824) % 4294967296:=by rw [NW];omega
 have HE:Hid (Vg x=if VK ((x+1073741824) % 4294967296 / 256) 9 && VK ((x+1073741824) % 4294967296 % 256) 9 then ((x+1073741824) % 4294967296 / 256,(x+1073741824) % 4294967296 % 256,true) else (0,0,false)):=rfl
 have hx:∀ n:Int,n=(x+1073741824) % 4294967296→VK (n / 256) 9=true→VK (n % 256) 9=true→3221225472+(256*(n / 256)+n % 256)=x:=fun n hn ha hb=>by
  rw [Xq] at ha hb;omega
 have N9:0≤(x+1073741824) % 4294967296:=by omega
 have YZ:(x+1073741824) % 4294967296<4294967296:=by omega
 generalize Vg x=X at *
 generalize (x+1073741824) % 4294967296=n at *
 have CO:=Zh (Hr (n / 256) (n % 256) w)
 have hq0:0≤n / 256:=by omega
 have hq1:n / 256<16777216:=by omega
 have hr0:0≤n % 256:=by omega
 have eF:n % 256<256:=by omega
 by_cases hc:(VK (n / 256) 9 && VK (n % 256) 9)=true
 ·have hX:X=(n / 256,n % 256,true):=by rw [HE.o,ZQ hc]
  subst hX
  have Ll:=hc
  rw [TU] at Ll
  have e:Xc (n / 256) (n % 256)=x:=by unfold Xc;rw [ZQ hc,hx n rfl Ll.1 Ll.2]
  rw [e] at CO
  have WM:3221225472≤x:=by have:=hx n rfl Ll.1 Ll.2;omega
  have b1:(x == 0)=false:=by rw [WQ];omega
  have b2:(x != x)=false:=by simp
  clear HE hx hc Ll e
  exact gK
 ·have hX:X=(0,0,false):=by rw [HE.o,Z4 hc]
  subst hX
  have e:Xc (n / 256) (n % 256)=0:=by unfold Xc;rw [Z4 hc]
  rw [e] at CO
  clear HE hx hc e
  exact gK
end Go.Proofs.By
namespace Go.Proofs.By
open Go.RowKit Go.Proofs.Heap
open Go.Proofs.Rm (YG YD Room ZT Inv of QI of_lt Ka Oq B_ Zx)
theorem rW (b:Nat) (R:Room) (peer x:Int) (w:World) (hR:ZT w b R) (hI:Inv R) (hl:∀ n,(R.src n).ss.length≤1000000) :
  Calls Tryz.prog 130 (Q9 (some ⟨b,0,none⟩) peer x) w fun e w'=>(∃ n l:Int,e = .returned (.tuple (Q3 n l (owned R peer x))))∧Below w w w':=by
 obtain ⟨n,O2,O3,hO⟩:∃ (n:Nat) (O2:Int) (O3:Bool),of R x=((n:Int),O2,O3):=⟨(of R x).1.toNat,(of R x).2.1,(of R x).2.2,by rw [Int.toNat_of_nonneg (of_lt R x).1]⟩
 have HX:Hid (owned R peer x=(O3 && decide ((R.src n).own=peer))):=by
  show _=_
  unfold owned
  rw [hO]
  rfl
 have aH:Hid (O3=true→(R.src n).there=true):=by
  show _→_
  intro h3
  obtain ⟨m,_,h1,_,h2⟩:=QI (R:=R) (x:=x) (by rw [hO];exact h3)
  rw [hO] at h2
  have h4:(n:Int)=(m:Int):=congrArg (·.1) h2
  have h4:n=m:=by omega
  rw [h4];exact h1
 have af:Hid (Calls Tryz.prog 127 (Jf (some ⟨b,0,none⟩) x) w fun e w'=>e = .returned (.tuple (Q3 (n:Int) O2 O3))∧Below w w w'):=by
  have h:=Ka b R x w hR
  rw [hO] at h
  exact h
 have ag:=Zh (fun (w2:World) (h:Below w w w2)=>Oq b R n w2 (hR.below h) hI hl)
 generalize owned R peer x=X at *
 clear hO hR hI hl
 cases O3 with
 | false=>
  have zG:Hid (X=false):=by show _=_;rw [HX.o];rfl
  clear HX aH
  go_enter Tryz.func130,Tryz.ntmps130
  go_wp2_with (first|(go_at_call 127;refine af.o.mono ?_;rintro e w2 ⟨rfl,Y0⟩;have X6:=Zh Y0;clear Y0)|(go_at_call 81;refine (ag.o _ X6.o).mono ?_;rintro e w3 ⟨⟨nm,ow,a,k,c,mu,has,rfl,Fy,Eu⟩,VH⟩;have VT:=Zh (X6.o.trans (VH.mono X6.o.size));clear VH Fy Eu))
  go_ret3
  exact ⟨⟨0,0,by rw [zG.o];rfl⟩,ZC VT.o (Zw _) _⟩
 | true=>
  by_cases hp:(R.src n).own=peer
  ·have zG:Hid (X=true):=by show _=_;rw [HX.o,We hp];rfl
   have HP:=Zh hp
   clear HX hp
   go_enter Tryz.func130,Tryz.ntmps130
   go_wp2_with (first|(go_at_call 127;refine af.o.mono ?_;rintro e w2 ⟨rfl,Y0⟩;have X6:=Zh Y0;clear Y0)|(go_at_call 81;refine (ag.o _ X6.o).mono ?_;rintro e w3 ⟨⟨nm,ow,a,k,c,mu,has,rfl,Fy,Eu⟩,VH⟩;have VT:=Zh (X6.o.trans (VH.mono X6.o.size));have tj:ow=peer:=((Eu (by rw [Fy];exact aH.o Cb)).trans HP.o);have sU:(ow != peer)=false:=(by rw [tj];simp);have hbb2:(ow == peer)=true:=(by rw [tj];simp);clear VH Fy Eu tj))
   go_ret3
   exact ⟨⟨(n:Int),O2,by rw [zG.o];rfl⟩,ZC VT.o (Zw _) _⟩
  ·have zG:Hid (X=false):=by show _=_;rw [HX.o,WB hp];rfl
   have HP:=Zh hp
   clear HX hp
   go_enter Tryz.func130,Tryz.ntmps130
   go_wp2_with (first|(go_at_call 127;refine af.o.mono ?_;rintro e w2 ⟨rfl,Y0⟩;have X6:=Zh Y0;clear Y0)|(go_at_call 81;refine (ag.o _ X6.o).mono ?_;rintro e w3 ⟨⟨nm,ow,a,k,c,mu,has,rfl,Fy,Eu⟩,VH⟩;have VT:=Zh (X6.o.trans (VH.mono X6.o.size));have tj:=Eu (by rw [Fy];exact aH.o Cb);have WM:ow≠peer:=(by rw [tj];exact HP.o);have sU:(ow != peer)=true:=(by rw [R6];exact WM);have hbb2:(ow == peer)=false:=(by rw [WQ];exact WM);clear VH Fy Eu tj WM))
   go_ret3
   exact ⟨⟨0,0,by rw [zG.o];rfl⟩,ZC VT.o (Zw _) _⟩
theorem rV (b:Nat) (R:Room) (peer x:Int) (w:World) (hR:ZT w b R) (h0:0≤x) (h1:x<4294967296) :
  Calls Tryz.prog 131 (Q9 (some ⟨b,0,none⟩) peer x) w fun e w'=>(∃ n:Int,e = .returned (.tuple (Q8 n (UG R peer x))))∧Below w w w':=by
 have CW:=Zh (yf x w h0 h1)
 have HX:Hid (UG R peer x=((Vg x).2.2 && decide ((Vg x).1=peer) && Zx R peer (Vg x).2.1)):=rfl
 generalize Vg x=W at *
 obtain ⟨wp,ws,wk⟩:=W
 dsimp only at CW HX
 have CS:=Zh (B_ b R peer ws w hR)
 generalize UG R peer x=X at *
 generalize Zx R peer ws=hv at *
 generalize (R.sub ws.toNat peer.toNat).want=s1 at *
 generalize (R.sub ws.toNat peer.toNat).ZR=s2 at *
 clear hR h0 h1
 cases wk with
 | false=>
  have zG:Hid (X=false):=by show _=_;rw [HX.o];rfl
  clear HX
  cases hv with
  | false=>
   rw [Z4 Zi] at CS
   exact nR
  | true=>
   rw [ZQ rfl] at CS
   exact nR
 | true=>
  by_cases hp:wp=peer
  ·subst hp
   cases hv with
   | false=>
    have zG:Hid (X=false):=by show _=_;rw [HX.o];simp
    rw [Z4 Zi] at CS
    clear HX
    exact nR
   | true=>
    have zG:Hid (X=true):=by show _=_;rw [HX.o];simp
    rw [ZQ rfl] at CS
    clear HX
    go_enter Tryz.func131,Tryz.ntmps131
    go_wp2_with (first|(go_at_call 160;refine CW.o.mono ?_;rintro e w2 ⟨rfl,rfl⟩)|(go_at_call 83;refine CS.o.mono ?_;rintro e w3 ⟨rfl,VH⟩;have VT:=Zh VH;clear VH))
    go_ret2
    exact ⟨⟨ws,by rw [zG.o];rfl⟩,ZC VT.o (Zw _) _⟩
  ·have zG:Hid (X=false):=by show _=_;rw [HX.o,WB hp];simp
   have sU:(wp != peer)=true:=by rw [R6];exact hp
   have hbb2:(wp == peer)=false:=by rw [WQ];exact hp
   clear HX hp
   cases hv with
   | false=>
    rw [Z4 Zi] at CS
    exact nR
   | true=>
    rw [ZQ rfl] at CS
    exact nR
open Go.Proofs.Rm (Wa YO Z9 XP VZ Yc WJ YL YS zg Mt NI)
theorem H7 {l:List Int} {k:Nat} (h:k<l.length):l.take (k+1)=l.take k++[l.getD k 0]:=by
 rw [List.take_succ_eq_append_getElem h,Rw,U7 h];rfl
theorem vV (b:Nat) (R:Room) (peer:Int) (x:R5) (w:World) (hR:ZT w b R) (hI:Inv R) (hS:Wa R) (V_:Te x.i) (hx:Uo w x) :
  Calls Tryz.prog 108 (Jh (some ⟨b,0,none⟩) peer (YX x).toArray) w fun e w'=>
   (∃ v,e = .returned (.tuple #[v,.int .i64 (Yj R peer x.i).2])∧YG w' v (Yj R peer x.i).1.1)∧ZT w' b (Yj R peer x.i).1.2∧Fr w (· = b) w w':=by
 obtain ⟨i,bv,gv,pv⟩:=x
 obtain ⟨ba,bc,wQ⟩:=Row.form hx.b
 obtain ⟨ga,gc,wX⟩:=Row.form hx.g
 obtain ⟨pa,pc,Mr⟩:=Row.form hx.p
 have mi:=hx.g
 obtain ⟨kd,ss,nt,tm,pk,oc,bs,gn,md,ps⟩:=i
 have td:=V_.m0
 have Da:=V_.m1
 have Bz:=V_.g
 clear V_ hx
 dsimp only at wQ wX Mr mi td Da Bz ⊢
 subst wQ;subst wX;subst Mr
 dsimp only [YX]
 have VQ:Hid (Below w w (w.alloc (.cells (Qd kd ss nt tm pk oc ba bs.length bc ga gn.length gc md pa ps.length pc) 173))):=Z' w _
 have hz:=Z7 w (.cells (Qd kd ss nt tm pk oc ba bs.length bc ga gn.length gc md pa ps.length pc) 173)
 have HR:=Zh hR
 have KT:=Zh (hR.below VQ.o)
 have hb:=hR.lt
 have Gd:Hid (Yj R peer ⟨kd,ss,nt,tm,pk,oc,bs,gn,md,ps⟩=if kd=200 then (([],R),if owned R peer ss then 0 else 1) else if kd=205∨kd=206 then (([],R),if UG R peer md then 0 else 1) else if kd=203 then Zg peer gn R else (([],R),0)):=rfl
 generalize Yj R peer ⟨kd,ss,nt,tm,pk,oc,bs,gn,md,ps⟩=X at *
 generalize bs.length=bl at *
 generalize ps.length=pl at *
 by_cases Mv:kd=200
 ·subst Mv
  have Vs:Hid (X=(([],R),if owned R peer ss then 0 else 1)):=by show _=_;rw [Gd.o];simp
  have CO:=Zh (rW b R peer ss _ KT.o hI hS.short)
  clear Gd hI hS mi hR td Da Bz
  generalize owned R peer ss=O at *
  cases O with
  | false=>
   have HX:Hid (X=(([],R),1)):=by show _=_;rw [Vs.o];rfl
   exact Yx64
  | true=>
   have HX:Hid (X=(([],R),0)):=by show _=_;rw [Vs.o];rfl
   exact Yx64
 by_cases xy:kd=205
 ·subst xy
  exact Yx83
 by_cases tK:kd=206
 ·subst tK
  exact Yx83
 have e1:(kd == 200)=false:=by rw [WQ];exact Mv
 have e2:(kd == 205)=false:=by rw [WQ];exact xy
 have e3:(kd == 206)=false:=by rw [WQ];exact tK
 have M5:Hid (X=if kd=203 then Zg peer gn R else (([],R),0)):=by show _=_;rw [Gd.o,Z4 Mv,Z4 Zo]
 clear Gd td Da
 by_cases IX:kd=203
 rotate_left
 ·have HX:Hid (X=(([],R),0)):=by show _=_;rw [M5.o,Z4 IX]
  have e4:(kd == 203)=false:=by rw [WQ];exact IX
  have e5:(kd != 203)=true:=by rw [R6];exact IX
  have R4:=VQ
  clear M5 mi hI hS hR
  go_enter Tryz.func108,Tryz.ntmps108
  go_wp2_with fail
  go_ret2
  exact ⟨⟨.slice none 0 0,by rw [HX.o];rfl,by rw [HX.o];exact Row.nil _ _⟩,by rw [HX.o];exact HR.o.below R4.o,Fr.Z8 _ R4.o⟩
 subst IX
 have HX:Hid (X=Zg peer gn R):=by show _=_;rw [M5.o,ZQ rfl]
 have HGR:=Zh mi
 have HTY:Hid (∀ k c fr,k=b→w.heap[k]?≠some (.cells c 66 fr)):=hR.F8 Zd
 have fQ:Hid (∀ j,Inv (Zg peer (gn.take j) R).1.2∧(Zg peer (gn.take j) R).1.1.length≤18*(gn.take j).length∧0≤(Zg peer (gn.take j) R).2∧(Zg peer (gn.take j) R).2≤(gn.take j).length):=fun j=>by
  have h:=Ra peer (gn.take j) R hI hS
  exact ⟨h.1,h.2.2⟩
 clear M5 mi hI hS e1 e2 e3 Mv xy tK
 go_enter Tryz.func108,Tryz.ntmps108
 go_wp2_with fail
 go_loopw [6,7,45] (fun s6 s7 s45 w'=>∃ j:Nat,j≤gn.length∧s45 = .int .i64 (j:Int)∧s7 = .int .i64 (Zg peer (gn.take j) R).2∧Fr w (· = b) w w'∧ZT w' b (Zg peer (gn.take j) R).1.2∧w'.ownsRow w 158 5 s6 (Zg peer (gn.take j) R).1.1.length ((Zg peer (gn.take j) R).1.1.flatMap Z9)) (fun _ _ s45 _=>gn.length-(intOf s45).toNat)
 case atStart=>exact ⟨0,Zo,rfl,rfl,Fr.Z8 _ VQ.o,KT.o,Ua _ _ _ _⟩
 case round=>
  obtain ⟨j,hj,rfl,rfl,Wx,Xt,YJ⟩:=hrel
  have Uh:=Zh Wx
  have XD:=Zh Xt
  have Yl:=Zh YJ
  have T5:=Wx.size
  obtain ⟨oa,oc',hs6,-⟩:=Row.Z6 YJ
  subst hs6
  clear Wx Xt YJ
  by_cases S4:j<gn.length
  ·have Z0:=HGR.o.fr Uh.o (Zw _) HTY.o
   obtain ⟨g',off',cap',e1,-,-,hg',Yw⟩:=Rm.NQ (l:=gn) Z0 Zo
   cases e1
   have hc:=Yw j S4
   have HT:=Zh (H7 S4)
   have Ak:=fQ.o j
   have kQ:=wI
   rw [Tg] at Ak
   obtain ⟨-,hi2,hi3,hi4⟩:=Ak
   clear Yw Z0
   generalize gn.getD j 0=p at *
   have HS:=Zh (OC peer p (gn.take j) R)
   have CG:=Zh (zg b (Zg peer (gn.take j) R).1.2 peer p wr XD.o)
   have BN:=Mm (Zg peer (gn.take j) R).1.2 peer p
   generalize Zg peer (gn.take j) R=G at *
   generalize YS G.1.2 peer p=Y at *
   obtain ⟨⟨Y1,Y2⟩,ye⟩:=Y
   obtain ⟨⟨G1,G2⟩,gu⟩:=G
   dsimp only at CG HS BN XD Yl hi2 hi3 hi4
   by_cases hye:ye=0
   ·subst hye
    have QO:Hid (Zg peer (gn.take j++[p]) R=((G1++Y1,Y2),gu)):=by show _=_;rw [HS.o];simp [wH]
    exact Yx40
   ·have F7:(ye == 0)=false:=by rw [WQ];exact hye
    have ek:(ye != 0)=true:=by rw [R6];exact hye
    have QO:Hid (Zg peer (gn.take j++[p]) R=((G1++Y1,Y2),gu+1)):=by show _=_;rw [HS.o];simp [wH,hye]
    exact Yx40
  ·have MM:j=gn.length:=by omega
   have hT:gn.take j=gn:=by rw [MM,nZ]
   rw [hT] at XD Yl ⊢
   clear fQ HGR
   generalize Zg peer gn R=G at *
   go_wp2
   go_ret2
   exact ⟨⟨_,by rw [HX.o];rfl,by rw [HX.o];exact Row.Z6 Yl.o⟩,by rw [HX.o];exact XD.o,Uh.o⟩
end Go.Proofs.By
