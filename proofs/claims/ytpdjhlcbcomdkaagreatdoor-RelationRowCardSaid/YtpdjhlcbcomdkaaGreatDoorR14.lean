/- Part of a proof. -/
import Derived.Test.YtpdjhlcbcomdkaaGreatDoorR13
set_option linter.unusedVariables false
set_option linter.unusedSimpArgs false
set_option maxRecDepth 100000
set_option maxHeartbeats 16000000
open Go Go.Q Go.Qr
namespace Go.Proofs.Rm
open Go.RowKit Go.Proofs.Heap Go.Proofs.Mem
open Go.Proofs.NM (may key Xz)
structure KX (w:World) (g:Nat) (nm nk:List UInt8) (w':World):Prop where
 c1:w'.cell? ⟨w,4,none⟩=some (.string (str nm))
 c2:w'.cell? ⟨g,1,none⟩=some (.string (str nk))
 Zg:Below w w w'
 s1:w.heap.size<w'.heap.size
 s2:g<w'.heap.size
section
variable {w w1 w2:World} {g:Nat} {nm nk:List UInt8}
theorem KX.below (h:KX w g nm nk w1) (hb:Below w1 w1 w2):KX w g nm nk w2:=
 ⟨(hb.cell (p:=⟨w,4,none⟩) h.s1).trans h.c1,(hb.cell (p:=⟨g,1,none⟩) h.s2).trans h.c2,h.Zg.trans (hb.mono h.Zg.size),OS h.s1 hb.size,OS h.s2 hb.size⟩
theorem KX.drew (h:KX w g nm nk w1):KX w g nm nk w1.drew:=h.below (YJ _ _).drew
theorem KX.all (h:KX w g nm nk w1):w1.cell? ⟨w,4,none⟩=some (.string (str nm))∧w1.cell? ⟨g,1,none⟩=some (.string (str nk))∧KX w g nm nk w1:=⟨h.c1,h.c2,h⟩
theorem KX.mk' {y0:Int} (h1:Below w w w1) (h2:w.heap.size<w1.heap.size) (h3:w1.cell? ⟨w,4,none⟩=some (.string (str nm))) {e:TypeId}:KX w w1.heap.size nm nk (w1.alloc (.cells (Q3 y0 (str nk)) e)):=by
 refine ⟨?_,?_,h1.alloc h1.size _,by simp;omega,by simp⟩
 ·rw [(Z' w1 _).cell (p:=⟨w,4,none⟩) h2];exact h3
 ·exact cell_of (Z8 w1 _) 1
end
theorem AU (b:Nat) (T:ZN) (o:Op) (sa ba:Option Addr) (sl sc bl bc:Nat) (w:World) (hR:ZL w b T) (hT:Xz w) (UT:o.name.length<9223372036854775807) (S0:∀ x∈T.ZA,x.name.length<9223372036854775807) (hk:o.kind=2) (Ei:1≤o.peer∧o.peer≤8) :
  Calls Tryz.prog 96 (Qi (some ⟨b,0,none⟩) (Jo o sa sl sc ba bl bc)) w fun e w'=>e = .returned (.int .i64 (T.X4 o))∧Below w w w':=by
 have CA:=Zh (fun (w1:World) (h:Below w w w1)=>SA b T o.peer w1 (hR.below h));have hb:=hR.lt;obtain ⟨kd,p,n,q,nm,ss⟩:=o;dsimp only at *
 subst hk
 have HJ:Hid (T.X4 ⟨2,p,n,q,nm,ss⟩=if 0≤T.XF p then 9 else if !may nm then 12 else if T.ZA.any (fun x=>decide (key x.name=key nm)) then 9 else 0):=by
  show _=_;unfold ZN.X4;rw [Z4 Zi,Z4 Ug,ZR rfl]
 have CM:Hid (∀ w1,Below w w w1→Calls Tryz.prog 120 #[.string (str nm)] w1 fun e w'=>e = .returned (.bool (may nm))∧Below w1 w1 w'):=fun w1 h=>NM.AB (str nm) w1 (by rw [Nz];exact UT) (Utf8Tabs_below hT h)
 have CK:Hid (∀ (s:List UInt8) w1,s.length<9223372036854775807→Below w w w1→Calls Tryz.prog 121 #[.string (str s)] w1 fun e w'=>e = .returned (.string (str (key s)))∧Below w1 w1 w'):=fun s w1 hs h=>NM.pN (str s) w1 (by rw [Nz];exact hs) (Utf8Tabs_below hT h)
 have dB:=UT;obtain ⟨pv,sv,uv,Yn,XJ⟩:=hR.Vw;have hlen:=XJ.ZA.len;have aN:Hid (∀ w',Below w w w'→w'.cell? ⟨b,0,none⟩=some pv):=fun w' h=>(h.cell (p:=⟨b,0,none⟩) hb).trans (cell_of Yn 0)
 have HP:Hid (∀ w',Below w w w'→Row w' 103 pv T.ZA.length (T.ZA.flatMap Yx)):=fun w' h=>XJ.ZA.below h
 obtain ⟨pa,pc,rfl,_⟩:=id XJ.ZA;have HPN:=Zh S0;generalize T.X4 ⟨2,p,n,q,nm,ss⟩=jn at *
 generalize T.XF p=at' at *
 clear hR UT XJ Yn S0;generalize T.ZA=P at *
 by_cases hj:0≤at'
 ·have HF:Hid (jn=9):=by show _=_;rw [HJ.o,ZR hj]
  go_enter Tryz.func96,Tryz.ntmps96;go_wp2_with (go_at_call 48;refine (CA.o _ (Z' _ _)).mono ?_;rintro e w1 ⟨rfl,YY⟩;obtain ⟨L_,Kb⟩:=SY YY;have QJ:=YY.size)
  exact jg
 cases hm:may nm
 ·have HF:Hid (jn=12):=by show _=_;rw [HJ.o,Z4 hj,hm];rfl
  rw [hm] at CM;clear hm;go_enter Tryz.func96,Tryz.ntmps96;go_wp2_with (first|(go_at_call 48;refine (CA.o _ (Z' _ _)).mono ?_;rintro e w1 ⟨rfl,YY⟩;obtain ⟨L_,Kb⟩:=SY YY;have QJ:=YY.size;have QS:=(Z' w _).trans (YY.mono Zi))|(go_at_call 120;refine (CM.o _ QS).mono ?_;rintro e w2 ⟨rfl,Y7⟩))
  go_ret;exact ⟨YW HF.o.symm,QS.trans (Y7.mono QS.size)⟩
 have HJ2:Hid (jn=if P.any (fun x=>decide (key x.name=key nm)) then 9 else 0):=by show _=_;rw [HJ.o,Z4 hj,hm];rfl
 rw [hm] at CM;clear hm HJ;go_enter Tryz.func96,Tryz.ntmps96;go_wp2_with (first|(go_at_call 48;refine (CA.o _ (Z' _ _)).mono ?_;rintro e w1 ⟨rfl,YY⟩;obtain ⟨L_,Kb⟩:=SY YY;have QJ:w.heap.size<w1.heap.size:=OS Zi YY.size;have QS:=(Z' w _).trans (YY.mono Zi);have zR:=YY.cell (p:=⟨w,4,none⟩) Zi;simp at zR)|(go_at_call 120;refine (CM.o _ QS).mono ?_;rintro e w2 ⟨rfl,Y7⟩;have Yq:=QS.trans (Y7.mono QS.size);have Bg:=aN.o _ Yq;have Jz:=(Y7.cell (p:=⟨w,4,none⟩) QJ).trans zR;have Sh:=OS QJ Y7.size))
 clear Bg;go_loopw [43] (fun i w'=>∃ k:Nat,k≤P.length∧i = .int .i64 k∧Below w w w'∧w.heap.size<w'.heap.size∧w'.cell? ⟨w,4,none⟩=some (.string (str nm))∧Hid (∀ j (h:j<P.length),j<k→key P[j].name≠key nm)) (fun i _=>P.length-(intOf i).toNat)
 case atStart=>exact ⟨0,Tk _,rfl,Yq,Sh,Jz,fun j h hj=>by omega⟩
 case round=>
  obtain ⟨k,hk,rfl,W8,TR,Ck,KA⟩:=hrel;by_cases VK:k<P.length
  ·obtain ⟨g,off,e1,hc⟩:=u9 (HP.o wr W8) Zo;subst e1;obtain ⟨d0,d1⟩:=hc k P[k] (Vb VK);have hnl:=HPN.o P[k] (PA VK)
   have HIN:Hid (key P[k].name=key nm→jn=9):=by
    intro h;rw [HJ2.o,ZR];rw [List.any_eq_true];exact ⟨P[k],PA VK,by simpa using h⟩
   have qW:Hid (key P[k].name≠key nm→∀ j (h:j<P.length),j<k+1→key P[j].name≠key nm):=fun h j hj JC=>by
    by_cases e:j=k
    ·subst e;exact h
    ·exact KA.o j hj Zo
   clear hc;generalize P[k]=y at *
   obtain ⟨y0,nk⟩:=y;dsimp only at d0 d1 HIN qW hnl;have aF:=Zh (fun w2 (h:Below w w w2)=>CK.o nk w2 hnl h);have CK2:=Zh (fun w2 (h:Below w w w2)=>CK.o nm w2 dB h);have hkx:=KX.mk' (nk:=nk) (y0:=y0) (e:=103) W8 TR Ck;by_cases R5:key nk=key nm
   ·have HF:=Zh (HIN.o R5);rw [R5] at aF;clear R5;go_wp2_with fail
    go_region_held3 (fun w'=>w'.cell? ⟨w,4,none⟩=some (.string (str nm))∧w'.cell? ⟨wr,1,none⟩=some (.string (str nk))∧KX w wr.heap.size nm nk w') (first|((with_reducible apply KX.all);with_reducible assumption)|((with_reducible apply KX.all);(with_reducible apply KX.drew);with_reducible assumption)|go_keep) (first|(go_at_call 121;go_split_ands;(with_reducible refine Calls.mono (aF.o _ ?_) ?_);(with_reducible apply KX.Zg);(with_reducible assumption);rintro e w2 ⟨rfl,Y7⟩;have kx2:=KX.below WS Y7)|(go_at_call 121;go_split_ands;(with_reducible refine Calls.mono (CK2.o _ ?_) ?_);(with_reducible apply KX.Zg);(with_reducible assumption);rintro e w3 ⟨rfl,VJ⟩;have kx3:=KX.below WS VJ))
    all_goals (go_wp2;go_ret;exact ⟨YW HF.o.symm,KX.Zg WS⟩)
   ·have HF:=Zh (qW.o R5);have e3:((str (key nk)).toList == (str (key nm)).toList)=false:=by rw [WR,ByteArray.toList_eq,ByteArray.toList_eq];exact R5
    clear R5;go_wp2_with fail
    go_region_held3 (fun w'=>w'.cell? ⟨w,4,none⟩=some (.string (str nm))∧w'.cell? ⟨wr,1,none⟩=some (.string (str nk))∧KX w wr.heap.size nm nk w') (first|((with_reducible apply KX.all);with_reducible assumption)|((with_reducible apply KX.all);(with_reducible apply KX.drew);with_reducible assumption)|go_keep) (first|(go_at_call 121;go_split_ands;(with_reducible refine Calls.mono (aF.o _ ?_) ?_);(with_reducible apply KX.Zg);(with_reducible assumption);rintro e w2 ⟨rfl,Y7⟩;have kx2:=KX.below WS Y7)|(go_at_call 121;go_split_ands;(with_reducible refine Calls.mono (CK2.o _ ?_) ?_);(with_reducible apply KX.Zg);(with_reducible assumption);rintro e w3 ⟨rfl,VJ⟩;have kx3:=KX.below WS VJ))
    all_goals
     go_wp2;go_roundw
     case rel=>exact ⟨k+1,Zo,Zn,KX.Zg WS,KX.s1 WS,KX.c1 WS,HF.o⟩
     case measure=>simp [intOf];omega
  ·have HF:Hid (jn=0):=by
    show _=_;rw [HJ2.o,Z4];rw [List.any_eq_true];rintro ⟨x,hx,N7⟩;obtain ⟨j,hj,rfl⟩:=List.getElem_of_mem hx;exact KA.o j hj Zo (by simpa using N7)
   go_wp2;go_ret;exact ⟨YW HF.o.symm,W8⟩
theorem Dv (b:Nat) (T:ZN) (o:Op) (s:Wl) (sa ba ca:Option Addr) (sl sc bl bc cc:Nat) (w:World) (hR:ZL w b T) (hk:5≤o.kind∧o.kind≤12) :
  Calls Tryz.prog 123 (Jb (some ⟨b,0,none⟩) (Jo o sa sl sc ba bl bc) (Qq s.num s.own ca s.ss.length cc s.ZE)) w fun e w'=>e = .returned (.int .i64 (T.Xk o s))∧Below w w w':=by
 by_cases h1:o.kind=5∨o.kind=8∨o.kind=9
 ·exact Dw b T o s sa ba ca sl sc bl bc cc w h1
 by_cases h2:o.kind=6
 ·exact Mp b T o s sa ba ca sl sc bl bc cc w hR h2
 by_cases h3:T.Y9 o.peer o.source<0
 ·exact FH b T o s sa ba ca sl sc bl bc cc w hR Zo h3
 ·exact Hr b T o s sa ba ca sl sc bl bc cc w hR Zo Zo
theorem AV (b:Nat) (T:ZN) (o:Op) (sa ba:Option Addr) (sc bl bc:Nat) (w:World) (hR:ZL w b T) (hk:¬(o.kind=2∧1≤o.peer∧o.peer≤8))
  (ZY:XR w (.slice sa o.ZK.length sc) o.ZK.length (YO o.ZK)) :
  Calls Tryz.prog 96 (Qi (some ⟨b,0,none⟩) (Jo o sa o.ZK.length sc ba bl bc)) w fun e w'=>e = .returned (.int .i64 (T.X4 o))∧Below w w w':=by
 have CA:=Zh (fun (w1:World) (h:Below w w w1)=>SA b T o.peer w1 (hR.below h));have CB:=Zh (fun (w1:World) (h:Below w w w1)=>VW b T o.source w1 (hR.below h));have CP:=Zh (fun (w1:World) (h:Below w w w1)=>Hq b T o (T.YU o.source) sa ba sc bl bc w1 (hR.below h) (ZY.below h));have HR:=Zh hR;have hb:=hR.lt
 have HW:Hid (T.X4 o=if o.kind<2∨12<o.kind then 4
 else if o.peer<1∨8<o.peer then 5
 else if o.kind=2 then
  (if 0≤T.XF o.peer then 9 else if !may o.name then 12 else if T.ZA.any (fun x=>decide (key x.name=key o.name)) then 9 else 0)
 else if T.XF o.peer<0 then 8
 else if o.kind=3 then 0
 else if o.source<1∨8<o.source then 5
 else if o.kind=4 then T.TM o (T.YU o.source)
 else if T.YU o.source<0 then 8
 else T.Xk o (T.Wb o.source)):=rfl
 have HS:Hid (0≤T.YU o.source→∃ k:Nat,k<T.Yg.length∧T.YU o.source=k∧T.Wb o.source=T.Yg.getD k UG):=fun h=>by
  obtain ⟨k,hk,e,-,-⟩:=XI h;refine ⟨k,hk,e,?_⟩;unfold ZN.Wb;rw [show T.YU o.source=k from e,Wz]
 have CS:=Zh (fun (s:Wl) (ca:Option Addr) (cc:Nat) (w1:World) (h:Below w w w1) (hk:5≤o.kind∧o.kind≤12)=>Dv b T o s sa ba ca o.ZK.length sc bl bc cc w1 (hR.below h) hk);obtain ⟨kd,p,n,q,nm,ss⟩:=o;dsimp only at *
 clear hR ZY;have HAT:Hid (T.XF p<0∨0≤T.XF p):=by show _∨_;omega
 generalize T.X4 ⟨kd,p,n,q,nm,ss⟩=wv at *
 generalize T.XF p=pat at *
 generalize T.TM ⟨kd,p,n,q,nm,ss⟩ (T.YU n)=pb at *
 by_cases h1:kd<2
 ·have HF:Hid (wv=4):=by show _=_;rw [HW.o,ZR (Ws h1)]
  exact js
 by_cases h2:12<kd
 ·have HF:Hid (wv=4):=by show _=_;rw [HW.o,ZR (Wh h2)]
  exact js
 by_cases h3:p<1
 ·have HF:Hid (wv=5):=by show _=_;rw [HW.o,Z4 Zo,ZR (Ws h3)]
  exact js
 by_cases h4:8<p
 ·have HF:Hid (wv=5):=by show _=_;rw [HW.o,Z4 Zo,ZR (Wh h4)]
  exact js
 have Ee:kd≠2:=fun h=>hk ⟨h,Zo,Zo⟩
 have HK2:=Zh Ee;have b2:(kd == 2)=false:=by rw [WR];exact Ee
 have DG:Hid (wv=if pat<0 then 8 else if kd=3 then 0 else if n<1∨8<n then 5 else if kd=4 then pb else if T.YU n<0 then 8 else T.Xk ⟨kd,p,n,q,nm,ss⟩ (T.Wb n)):=by
  show _=_;rw [HW.o,Z4 Zo,Z4 Zo,Z4 Ee]
 clear HW hk Ee;by_cases h5:pat<0
 ·have HF:Hid (wv=8):=by show _=_;rw [DG.o,ZR h5]
  have b5:decide (0≤pat)=false:=by simpa using h5
  exact jl
 have h5p:0≤pat:=by omega
 by_cases h6:kd=3
 ·subst h6;have HF:Hid (wv=0):=by show _=_;rw [DG.o,Z4 h5,ZR rfl]
  exact jl
 have b3:(kd == 3)=false:=by rw [WR];exact h6
 by_cases h7:n<1
 ·have HF:Hid (wv=5):=by show _=_;rw [DG.o,Z4 h5,Z4 h6,ZR (Ws h7)]
  clear h6;exact jl
 by_cases h8:8<n
 ·have HF:Hid (wv=5):=by show _=_;rw [DG.o,Z4 h5,Z4 h6,ZR (Wh h8)]
  clear h6;exact jl
 have qB:Hid (wv=if kd=4 then pb else if T.YU n<0 then 8 else T.Xk ⟨kd,p,n,q,nm,ss⟩ (T.Wb n)):=by
  show _=_;rw [DG.o,Z4 h5,Z4 h6,Z4 Zo]
 clear DG;by_cases h9:kd=4
 ·subst h9;have HF:Hid (wv=pb):=by show _=_;rw [qB.o,ZR rfl]
  clear h6 HS qB;generalize T.YU n=sat at *
  go_enter Tryz.func96,Tryz.ntmps96;go_wp2_with (first|(go_at_call 48;(with_reducible refine (CA.o _ (Z' _ _)).mono ?_);rintro e w1 ⟨rfl,YY⟩;obtain ⟨L_,Kb⟩:=SY YY;have QJ:w.heap.size<w1.heap.size:=OS Zi YY.size;have QS:=(Z' w _).trans (YY.mono Zi))|(go_at_call 49;(with_reducible refine (CB.o _ QS).mono ?_);rintro e w2 ⟨rfl,Y7⟩;obtain ⟨hcl2,hfz2⟩:=SY Y7;have Sh:=OS QJ Y7.size;have Yq:=QS.trans (Y7.mono QS.size))|(go_at_call 122;(with_reducible refine (CP.o _ Yq).mono ?_);rintro e w3 ⟨rfl,VJ⟩))
  go_ret;exact ⟨YW HF.o.symm,Yq.trans (VJ.mono Yq.size)⟩
 have b4:(kd == 4)=false:=by rw [WR];exact h9
 have km:5≤kd∧kd≤12:=by have:=HK2.o;omega
 by_cases Bf:T.YU n<0
 ·have HF:Hid (wv=8):=by show _=_;rw [qB.o,Z4 h9,ZR Bf]
  clear h6 h9 HS qB;generalize T.YU n=sat at *
  go_enter Tryz.func96,Tryz.ntmps96;go_wp2_with (first|(go_at_call 48;(with_reducible refine (CA.o _ (Z' _ _)).mono ?_);rintro e w1 ⟨rfl,YY⟩;obtain ⟨L_,Kb⟩:=SY YY;have QJ:w.heap.size<w1.heap.size:=OS Zi YY.size;have QS:=(Z' w _).trans (YY.mono Zi))|(go_at_call 49;(with_reducible refine (CB.o _ QS).mono ?_);rintro e w2 ⟨rfl,Y7⟩;obtain ⟨hcl2,hfz2⟩:=SY Y7;have Sh:=OS QJ Y7.size;have Yq:=QS.trans (Y7.mono QS.size)))
  go_ret;exact ⟨YW HF.o.symm,Yq⟩
 ·obtain ⟨k,VK,R5,hsd⟩:=HS.o Zo;have HF:Hid (wv=T.Xk ⟨kd,p,n,q,nm,ss⟩ (T.Yg.getD k UG)):=by show _=_;rw [qB.o,Z4 h9,Z4 Bf,hsd]
  rw [R5] at CB;clear h6 h9 Bf qB HS CP R5 hsd;go_enter Tryz.func96,Tryz.ntmps96;go_wp2_with fail
  (with_reducible refine (CA.o _ (Z' _ _)).mono ?_)
  rintro e w1 ⟨rfl,YY⟩;obtain ⟨L_,Kb⟩:=SY YY;have QJ:w.heap.size<w1.heap.size:=OS Zi YY.size;have QS:=(Z' w _).trans (YY.mono Zi);go_wp2_with fail
  (with_reducible refine (CB.o _ QS).mono ?_)
  rintro e w2 ⟨rfl,Y7⟩;obtain ⟨hcl2,hfz2⟩:=SY Y7;have Sh:=OS QJ Y7.size;have Yq:=QS.trans (Y7.mono QS.size);obtain ⟨pv,sv,uv,Yn,XJ⟩:=(HR.o.below Yq).Vw;obtain ⟨P,Tt,ZY,Uc⟩:=XJ.Yg;have VK:k<P.length:=by rw [←Tt,TB] at VK;exact VK
  have hlen:=ZY.len;have c1:=cell_of Yn 1;have HX:Hid (T.Yg.getD k UG=P[k].1):=by show _=_;rw [←Tt,Uj VK]
  have hr:=Uc P[k] (PA VK);obtain ⟨pa,pc,rfl,-,-⟩:=id ZY;obtain ⟨g,off,e1,hc⟩:=Sw ZY Zo;subst e1;obtain ⟨d0,d1,d2,d3⟩:=hc k P[k] (Vb VK);obtain ⟨ca,cc,hv,-,-⟩:=id hr;rw [hv] at d2;have CS2:=Zh (fun (w1:World) (h:Below w w w1)=>CS.o P[k].1 ca cc w1 h km);have cJ:=Zh Y7;have hb1':=Zh YY;have n9:=Zh Yq;clear hc hv hr Uc Yn XJ Tt ZY YY Y7 QS Yq;generalize P[k]=x at *
  obtain ⟨⟨x0,x1,x2,x3⟩,x4⟩:=x;dsimp only at d0 d1 d2 d3 HX CS2;go_wp2_with fail
  go_still_tail 9,ZB
  go_wp2_with (go_at_call 123;(with_reducible refine (CS2.o _ (Below.drew n9.o)).mono ?_);rintro e w3 ⟨rfl,VJ⟩)
  go_ret;exact ⟨YW (by rw [HF.o,HX.o]),n9.o.drew.trans (VJ.mono n9.o.size)⟩
theorem We (b:Nat) (T:ZN) (o:Op) (sa ba:Option Addr) (sc bl bc:Nat) (w:World) (hR:ZL w b T) (hT:Xz w) (UT:o.name.length<9223372036854775807) (S0:∀ x∈T.ZA,x.name.length<9223372036854775807)
  (ZY:XR w (.slice sa o.ZK.length sc) o.ZK.length (YO o.ZK)) :
  Calls Tryz.prog 96 (Qi (some ⟨b,0,none⟩) (Jo o sa o.ZK.length sc ba bl bc)) w fun e w'=>e = .returned (.int .i64 (T.X4 o))∧Below w w w':=by
 by_cases h:o.kind=2∧1≤o.peer∧o.peer≤8
 ·exact AU b T o sa ba _ sc bl bc w hR hT UT S0 h.1 h.2
 ·exact AV b T o sa ba sc bl bc w hR h ZY
end Go.Proofs.Rm
namespace Go.Proofs.Heap
open Go.RowKit
theorem Below.alloc' {B:Nat} {a w:World} (h:Below B a w) (hB:B≤a.heap.size) (o:Obj):Below B a (w.alloc o):=h.alloc (PO hB h.size) o
theorem Below.call {B:Nat} {a w w2:World} (h:Below B a w) (hB:B≤a.heap.size) (hb:Below w w w2):Below B a w2:=h.trans (hb.mono (PO hB h.size))
theorem le2 (w:World) (A B:Obj):w.heap.size+2≤((w.alloc A).alloc B).heap.size:=by simp
end Go.Proofs.Heap
namespace Go.Proofs.Rm
open Go.RowKit Go.Proofs.Heap Go.Proofs.Mem
theorem Hy (b:Nat) (T:ZN) (x:Va) (w:World) (hR:ZL w b T) (hs:0≤T.YU x.source) (hw:0≤x.want∧x.want<(T.Wb x.source).ss.length) :
  Calls Tryz.prog 99 (Qi (some ⟨b,0,none⟩) (Ql x.peer x.source x.want x.ZQ)) w fun e w'=>e = .returned (V4 (T.ask x))∧Below w w w':=by
 obtain ⟨k,VK,R5,-,-⟩:=XI hs;have R5:T.YU x.source=k:=R5;have CB:=Zh (fun (w1:World) (h:Below w w w1)=>VW b T x.source w1 (hR.below h));rw [R5] at CB;have hb:=hR.lt;have HSD:Hid (T.Wb x.source=T.Yg.getD k UG):=by show _=_;unfold ZN.Wb;rw [R5,Wz]
 have HA:Hid (T.ask x=⟨9,(T.Wb x.source).own,(T.Wb x.source).num,0,(T.Wb x.source).ss.getD x.want.toNat 0⟩):=rfl;obtain ⟨j,hj⟩:=Rf hw.1;obtain ⟨pv,sv,uv,Yn,XJ⟩:=hR.Vw;obtain ⟨P,Tt,ZY,Uc⟩:=XJ.Yg;have VK:k<P.length:=by rw [←Tt,TB] at VK;exact VK
 have hlen:=ZY.len;have c1:=cell_of Yn 1;have HX:Hid (T.Yg.getD k UG=P[k].1):=by show _=_;rw [←Tt,Uj VK]
 have hr:=Uc P[k] (PA VK);obtain ⟨pa,pc,rfl,-,-⟩:=id ZY;obtain ⟨g,off,e1,hc⟩:=Sw ZY Zo;subst e1;obtain ⟨d0,d1,d2,d3⟩:=hc k P[k] (Vb VK);rw [hj,HSD.o,HX.o] at hw;have RV:j<P[k].1.ss.length:=by omega
 obtain ⟨g2,Au,cap2,H_,hlc,wq,om,Yu⟩:=NC hr Zo;have hx:=Yu j RV;have hl2:=hr.len;rw [H_] at d2;have HT:Hid (T.ask x=⟨9,P[k].1.own,P[k].1.num,0,P[k].1.ss.getD j 0⟩):=by show _=_;rw [HA.o,HSD.o,HX.o,hj];rfl
 have hg:g<w.heap.size:=by
  rcases Nat.lt_or_ge g w.heap.size with h|h
  ·exact h
  ·simp [World.cell?,E7 h] at d0
 clear hR hs Yu hc hr Uc Yn XJ Tt ZY HSD HX R5 HA hw;generalize T.ask x=TA at *
 obtain ⟨x0,x1,x2,x3⟩:=x;dsimp only at *
 subst hj;generalize P[k].1.ss.getD j 0=xx at *
 generalize P[k].1.ss.length=xl at *
 generalize P[k].1.own=xo at *
 generalize P[k].1.num=xn at *
 generalize P[k].1.ZE=xm at *
 generalize P[k].2=xv at *
 generalize P.length=N at *
 have Zz:Hid (∀ w',Below (w.heap.size+2) ((w.alloc (.cells (Ql x0 x1 j x3) 105)).alloc (.cells (Qh 0 0 0 0 0) 158)) w' →
   w'.cell? ⟨b,1,none⟩=some (.slice (some ⟨g,off,none⟩) N pc)∧w'.cell? ⟨w,1,none⟩=some (.int .i64 x1)∧w'.cell? ⟨g,off+k*4,none⟩=some (.int .i64 xn)∧w'.cell? ⟨g,off+k*4+1,none⟩=some (.int .i64 xo)∧w'.cell? ⟨g,off+k*4+2,none⟩=some (.slice (some ⟨g2,Au,none⟩) xl cap2)∧w'.cell? ⟨g,off+k*4+3,none⟩=some (.bool xm)∧Below (w.heap.size+2) ((w.alloc (.cells (Ql x0 x1 j x3) 105)).alloc (.cells (Qh 0 0 0 0 0) 158)) w'):=fun w' h=>by
  have h1:Below w w w':=(((YJ _ _).alloc (Zw _) _).alloc Zi _).trans (h.mono Zo);exact ⟨(h1.cell (p:=⟨b,1,none⟩) hb).trans c1,(h.cell (p:=⟨w,1,none⟩) T_).trans (cell_of (V5 w _ _).1 1),(h1.cell (p:=⟨g,off+k*4,none⟩) hg).trans d0,(h1.cell (p:=⟨g,off+k*4+1,none⟩) hg).trans d1,(h1.cell (p:=⟨g,off+k*4+2,none⟩) hg).trans d2,(h1.cell (p:=⟨g,off+k*4+3,none⟩) hg).trans d3,h⟩
 have KW:Hid (∀ w',Below (w.heap.size+2) ((w.alloc (.cells (Ql x0 x1 j x3) 105)).alloc (.cells (Qh 0 0 0 0 0) 158)) w'→Below w w w'):=fun w' h=>(((YJ _ _).alloc (Zw _) _).alloc Zi _).trans (h.mono Zo)
 have QM:Hid (∀ w',Below (w.heap.size+2) ((w.alloc (.cells (Ql x0 x1 j x3) 105)).alloc (.cells (Qh 0 0 0 0 0) 158)) w'→w'.cell? ⟨g2,Au+j,none⟩=some (.int .u32 xx)∧w'.cell? ⟨w,2,none⟩=some (.int .i64 j)∧(w'.cell? ⟨w.heap.size+1,0,none⟩=some (.int .i64 0)∧w'.cell? ⟨w.heap.size+1,1,none⟩=some (.int .i64 0)∧w'.cell? ⟨w.heap.size+1,2,none⟩=some (.int .i64 0)∧w'.cell? ⟨w.heap.size+1,3,none⟩=some (.int .i64 0)∧w'.cell? ⟨w.heap.size+1,4,none⟩=some (.int .u32 0)) ∧
   (∀ o,w'.frozen? ⟨w.heap.size+1,o,none⟩=false)):=fun w' h=>by
  have h1:Below w w w':=KW.o _ h;have hB:=fun o=>(h.cell (p:=⟨w.heap.size+1,o,none⟩) T_).trans (cell_of (V5 w _ _).2 o)
  refine ⟨(h1.cell (p:=⟨g2,Au+j,none⟩) om).trans hx,(h.cell (p:=⟨w,2,none⟩) T_).trans (cell_of (V5 w _ _).1 2),⟨hB 0,hB 1,hB 2,hB 3,hB 4⟩,fun o=>(h.frozen (p:=⟨w.heap.size+1,o,none⟩) T_).trans ?_⟩;simp only [World.frozen?,(V5 w _ _).2];simp
 have K0:Below (w.heap.size+2) ((w.alloc (.cells (Ql x0 x1 j x3) 105)).alloc (.cells (Qh 0 0 0 0 0) 158)) ((w.alloc (.cells (Ql x0 x1 j x3) 105)).alloc (.cells (Qh 0 0 0 0 0) 158)):=YJ _ _;go_enter Tryz.func99,Tryz.ntmps99;go_wp2_with fail
 go_region_held3 (fun w'=>w'.cell? ⟨b,1,none⟩=some (.slice (some ⟨g,off,none⟩) N pc)∧w'.cell? ⟨w,1,none⟩=some (.int .i64 x1)∧w'.cell? ⟨g,off+k*4,none⟩=some (.int .i64 xn)∧w'.cell? ⟨g,off+k*4+1,none⟩=some (.int .i64 xo)∧w'.cell? ⟨g,off+k*4+2,none⟩=some (.slice (some ⟨g2,Au,none⟩) xl cap2)∧w'.cell? ⟨g,off+k*4+3,none⟩=some (.bool xm)∧Below (w.heap.size+2) ((w.alloc (.cells (Ql x0 x1 j x3) 105)).alloc (.cells (Qh 0 0 0 0 0) 158)) w')
  (first|(exact Zz.o _ WS)|(exact Zz.o _ (Below.drew WS))|(exact Zz.o _ (Heap.Below.alloc' WS (le2 _ _ _) _))|(exact Zz.o _ (Heap.Below.alloc' (Below.drew WS) (le2 _ _ _) _))|(exact Zz.o _ (Below.setCell (Below.setCell (Below.setCell (Below.setCell WS Zi _) Zi _) Zi _) Zi _))|(exact Zz.o _ (Below.setCell (Below.setCell (Below.setCell (Below.setCell (Below.drew WS) Zi _) Zi _) Zi _) Zi _))|go_keep)
  (first|(go_at_call 49;go_split_ands;(with_reducible refine Calls.mono (CB.o _ (KW.o _ WS)) ?_);rintro e w2 ⟨rfl,Y7⟩;have Yq:=Heap.Below.call WS (le2 _ _ _) Y7;obtain ⟨L_,Kb⟩:=SY Y7;have Sh:=Y7.size)|fail)
 all_goals
  clear K0;obtain ⟨-,-,-,-,-,-,NW⟩:= ‹_∧_∧_∧_∧_∧_∧Below (w.heap.size+2) _ _›;obtain ⟨y1,y2,⟨y3,y4,y5,y6,y7⟩,Wu⟩:=QM.o _ NW;have z0:=Wu 0;have z1:=Wu 1;have z2:=Wu 2;have z3:=Wu 3;have z4:=Wu 4;have aM:=Zh NW;have cX:(0:Int)≤(j:Int):=qD j;have hj1:(j:Int)<(xl:Int):=OP.2 RV;clear NW Wu;go_wp2_with fail
  go_region
  go_wp2;refine VD (v:=V4 ⟨9,xo,xn,0,xx⟩) (by simp [results,Tryz.results99,go_sem,V4,y3,y4,y5,y6,y7]) rfl ⟨by rw [HT.o],?_⟩;exact ((((((KW.o _ aM.o).setCell Zi _).setCell Zi _).setCell Zi _).setCell Zi _).setCell Zi _).drew
theorem Oh {α:Type} {p:α→Bool} {l:List α}:0≤findAt p l↔∃ x∈l,p x=true:=by
 constructor
 ·intro h;obtain ⟨k,hk,-,hp,-⟩:=XI h;exact ⟨l[k],PA hk,hp⟩
 ·rintro ⟨x,hx,hp⟩;unfold findAt;cases hf:l.findIdx? p with
  | none=>
   rw [List.findIdx?_eq_none_iff] at hf;have:=hf x hx;rw [hp] at this;cases this
  | some i=>exact qD i
theorem IE {α:Type} {l:List α} {k:Nat} {x:α} (hx:x∈l) (h:∀ hk:k<l.length,l[k]≠x):x∈l.eraseIdx k:=by
 obtain ⟨i,hi,rfl⟩:=List.getElem_of_mem hx;rw [List.mem_eraseIdx_iff_getElem];refine ⟨i,hi,?_,rfl⟩;intro e;subst e;exact h hi rfl
theorem EP {T:ZN} {p n:Int}:0≤T.Y9 p n↔∃ x∈T.Z0,x.peer=p∧x.source=n:=by
 unfold ZN.Y9;rw [Oh];simp
theorem KU {T:ZN} {p n q m:Int} (WK:¬(q=p∧m=n)) (h0:0≤T.Y9 p n) (h:0≤T.Y9 q m):0≤(T.WN p n).Y9 q m:=by
 obtain ⟨x,hx,hxq,hxm⟩:=EP.1 h;obtain ⟨k,hk,R5,hp,-⟩:=XI h0;rw [EP];refine ⟨x,?_,hxq,hxm⟩;unfold ZN.WN;refine IE hx fun Ee e=>?_
 have R5:T.Y9 p n=k:=R5;have:T.Z0[k]=x:=by rw [←e];congr 1;rw [R5,Wz]
 rw [this] at hp;simp at hp;exact WK ⟨Zo,Zo⟩
theorem Gk (n:Int):∀ (l:List Nat) (p:Nat) (T:ZN),ZN.Yc n (l++[p]) T=((ZN.Yc n l T).1++[⟨3,p,n,0,0⟩,⟨2,p,n,0,0⟩],(ZN.Yc n l T).2.WN p n)
 | [],p,T=>rfl
 | q :: l,p,T=>by
  show ZN.Yc n (q :: (l++[p])) T=_;unfold ZN.Yc;rw [Gk n l p];rfl
theorem Ui (n:Int):∀ (l:List Nat) (T:ZN),(ZN.Yc n l T).2.Yg=T.Yg∧(ZN.Yc n l T).2.ZA=T.ZA∧(ZN.Yc n l T).2.Z0.length≤T.Z0.length∧(ZN.Yc n l T).1.length=2*l.length
 | [],T=>⟨rfl,rfl,Zw _,rfl⟩
 | q :: l,T=>by
  obtain ⟨h1,h2,h3,h4⟩:=Ui n l (T.WN q n);unfold ZN.Yc;refine ⟨h1,h2,PO h3 (by unfold ZN.WN;dsimp only;exact (List.eraseIdx_sublist _ _).length_le),?_⟩;dsimp only;rw [List.length_cons,List.length_cons,h4,List.length_cons];omega
theorem D3 (n:Int):∀ (l:List Nat) (T:ZN) (q:Nat),l.Nodup→(∀ p∈l,0≤T.Y9 (p:Int) n)→q ∉ l→0≤T.Y9 (q:Int) n→0≤(ZN.Yc n l T).2.Y9 (q:Int) n
 | [],T,q,_,_,_,h=>h
 | p :: l,T,q,hd,hl,hq,h=>by
  unfold ZN.Yc;dsimp only;rw [List.nodup_cons] at hd;have hp:=hl p (List.mem_cons_self ..);refine D3 n l (T.WN p n) q hd.2 (fun r hr=>KU (fun e=>hd.1 ?_) hp (hl r (List.mem_cons_of_mem _ hr))) (fun e=>hq (List.mem_cons_of_mem _ e)) (KU (fun e=>hq ?_) hp h)
  ·have:r=p:=by omega
   rw [←this];exact hr
  ·have:q=p:=by omega
   rw [this];exact List.mem_cons_self ..
theorem Ka {T:ZN} {n:Int} {p:Nat}:p∈T.Zv n↔1≤p∧p≤8∧0≤T.Y9 (p:Int) n:=by
 unfold ZN.Zv ZN.Vt;rw [Z1g,vO];constructor
 ·rintro ⟨⟨q,hq,rfl⟩,h2⟩;rw [List.mem_range] at hq;exact ⟨Zo,Zo,of_decide_eq_true h2⟩
 ·rintro ⟨h1,h2,h3⟩;exact ⟨⟨p-1,by rw [List.mem_range];omega,Zo⟩,Wi h3⟩
theorem JA (T:ZN) (n:Int):(T.Zv n).Nodup:=by
 unfold ZN.Zv ZN.Vt;refine List.Pairwise.filter _ ?_;rw [List.pairwise_map];exact List.Pairwise.imp (fun h e=>h Zo) List.nodup_range
theorem Small.WN {T:ZN} (h:T.Small) (p n:Int):(T.WN p n).Small:=
 ⟨h.ZA,h.Yg,PO (List.eraseIdx_sublist _ _).length_le h.Z0⟩
theorem Small.Yc {T:ZN} (h:T.Small) (n:Int) (l:List Nat):(ZN.Yc n l T).2.Small:=by
 obtain ⟨h1,h2,h3,-⟩:=Ui n l T;exact ⟨by rw [h2];exact h.ZA,by rw [h1];exact h.Yg,PO h3 h.Z0⟩
theorem Small.Ud {T:ZN} (h:T.Small) (n:Int):(T.Ud n).Small:=⟨h.ZA,PO (List.eraseIdx_sublist _ _).length_le h.Yg,h.Z0⟩
theorem Small.Yo {T:ZN} (h:T.Small) (n:Int):(T.Yo n).2.Small:=Small.Ud (Small.Yc h n _) n
theorem Mv (T:ZN) (n:Int):(T.Yo n).1.length≤16:=by
 have h1:=(Ui n (T.Zv n) T).2.2.2;have h2:=Sa T n 8;have h2:(T.Zv n).length≤8:=h2;show (ZN.Yc n (T.Zv n) T).1.length≤16;omega
theorem Sr (p:Int) (T:ZN):∀ k,(ZN.ZM p T k).2.Yg=T.Yg∧(ZN.ZM p T k).2.ZA=T.ZA∧(T.Small→(ZN.ZM p T k).2.Small)∧(ZN.ZM p T k).1.length≤k
 | 0=>⟨rfl,rfl,id,Zw _⟩
 | k+1=>by
  obtain ⟨h1,h2,h3,h4⟩:=Sr p T k;unfold ZN.ZM;dsimp only;split
  ·exact ⟨h1,h2,fun h=>Small.WN (h3 h) _ _,by dsimp only;rw [UE];simp;omega⟩
  ·exact ⟨h1,h2,h3,Zo⟩
theorem Ss (p:Int) (T:ZN):∀ k,(ZN.ZI p T k).2.ZA=T.ZA∧(T.Small→(ZN.ZI p T k).2.Small)∧(ZN.ZI p T k).1.length≤k*16
 | 0=>⟨rfl,id,Zw _⟩
 | k+1=>by
  obtain ⟨h2,h3,h4⟩:=Ss p T k;unfold ZN.ZI;dsimp only;split
  ·refine ⟨?_,fun h=>Small.Yo (h3 h) _,?_⟩
   ·dsimp only;show (ZN.Yc _ _ _).2.ZA=_;rw [(Ui _ _ _).2.1];exact h2
   ·dsimp only;rw [UE];have:=Mv (ZN.ZI p T k).2 ((k:Int)+1);omega
  ·exact ⟨h2,h3,Zo⟩
theorem Lm (p:Int) (T:ZN) (k:Nat):ZN.ZM p T (k+1)=if 0≤(ZN.ZM p T k).2.Y9 p ((k:Int)+1) then ((ZN.ZM p T k).1++[⟨2,p,(k:Int)+1,0,0⟩],(ZN.ZM p T k).2.WN p ((k:Int)+1)) else ZN.ZM p T k:=rfl
theorem Lp (p:Int) (T:ZN) (k:Nat):ZN.ZI p T (k+1)=if (ZN.ZI p T k).2.owner ((k:Int)+1)=p then ((ZN.ZI p T k).1++((ZN.ZI p T k).2.Yo ((k:Int)+1)).1,((ZN.ZI p T k).2.Yo ((k:Int)+1)).2) else ZN.ZI p T k:=rfl
theorem Kr {T:ZN} {n:Int}:0≤T.YU n↔∃ x∈T.Yg,x.num=n:=by
 unfold ZN.YU;rw [Oh];simp
theorem G3 {T:ZN} {n:Int}:0≤T.XF n↔∃ x∈T.ZA,x.num=n:=by
 unfold ZN.XF;rw [Oh];simp
theorem sY {T:ZN} {n p:Int} (hp:p≠0) (h:T.owner n=p):0≤T.YU n:=by
 unfold ZN.owner at h;split at h
 ·exact absurd h.symm hp
 ·omega
end Go.Proofs.Rm
namespace Go.Proofs.Rm
open Go.RowKit Go.Proofs.Heap Go.Proofs.Mem
theorem ZL.grown {w w':World} {b:Nat} {T:ZN} (h:ZL w b T) {base:Nat} {size:Nat} {vo:Value} {m:Nat} {ys:List Value} (ho:w.ownsRow base 158 size vo m ys) (hg:w.grownBy w' vo.ownBlock) (hb:b<base):ZL w' b T:=by
 have PV:=h.lt;obtain ⟨pv,sv,uv,hc,h1,⟨ms,h2,h3,h4⟩,h5⟩:=h.Vw;exact ⟨pv,sv,uv,by rw [hg.block b PV (fun e=>by have:=YL ho b e.symm;omega)];exact hc,Row.grown h1 ho hg Zd,⟨ms,h2,Row.grown h3 ho hg Zd,fun m hm=>Row.grown (h4 m hm) ho hg Zd⟩,Row.grown h5 ho hg Zd⟩
theorem SU (l:List (Wl × Value)):(l.flatMap Zq).length=l.length*4:=XG Zq 4 (fun _=>rfl) l
theorem Pr {l:List (Wl × Value)} (h:∀ m∈l,∃ a n c,m.2 = .slice a n c):∀ u∈l.flatMap Zq,u.oneCell'=true:=by
 intro u hu;obtain ⟨x,hx,hu⟩:=List.mem_flatMap.1 hu;obtain ⟨a,n,c,e⟩:=h x hx;obtain ⟨x,v⟩:=x;dsimp only at e;subst e;exact LB x a n c u hu
theorem Gp {l:List Nat} {k:Nat} (h:k<l.length):l.getD k 0∈l:=by
 rw [SC,Vb h];exact PA h
theorem xX {l:List Nat} {k:Nat} (h:k<l.length):l.take (k+1)=l.take k++[l.getD k 0]:=by
 rw [List.take_succ_eq_append_getElem h,SC,Vb h];rfl
theorem wY {l:List Nat} (h:l.Nodup) {k:Nat} (hk:k<l.length):l.getD k 0 ∉ l.take k:=by
 rw [SC,Vb hk];intro hm;obtain ⟨i,hi,e⟩:=List.getElem_of_mem hm;rw [S4] at hi;rw [List.getElem_take] at e;exact (List.pairwise_iff_getElem.1 h) i k Zo hk Zo e
theorem PD (b:Nat) (T:ZN) (n:Int) (w:World) (hR:ZL w b T) (Vl:T.Small) (hs:0≤T.YU n) :
  Calls Tryz.prog 98 (Qk (some ⟨b,0,none⟩) n) w fun e w'=>(∃ v,e = .returned v∧YF w' v (T.Yo n).1)∧ZL w' b (T.Yo n).2∧Fr w (· = b) w w':=by
 have hb:=hR.lt;have CH:=Zh (JY b T n w hR);have HLL:(T.Zv n).length≤8:=Sa T n 8;have HND:=Zh (JA T n);have HMEM:Hid (∀ p∈T.Zv n,0≤T.Y9 (p:Int) n):=fun p hp=>(Ka.1 hp).2.2
 have HES:Hid (T.Yo n=((ZN.Yc n (T.Zv n) T).1,(ZN.Yc n (T.Zv n) T).2.Ud n)):=rfl;have HR:=Zh hR;have Mr:=Zh Vl;have HSA:=Zh hs;clear hR Vl hs;generalize T.Zv n=L at *
 go_enter Tryz.func98,Tryz.ntmps98;go_wp2_with fail
 (with_reducible refine CH.o.mono ?_)
 rintro e w1 ⟨⟨lv,rfl,ZY⟩,YY⟩;have U':=Zh ZY;have JT:Hid (Fr w (· = b) w w1):=Fr.Z7 _ YY;have KG:=Zh (HR.o.below YY);obtain ⟨la,wQ,rfl,-,-⟩:=id ZY;clear YY ZY;go_wp2_with fail
 go_loopw [5,13] (fun v i w'=>∃ k:Nat,k≤L.length∧i = .int .i64 k∧Fr w (· = b) w w'∧Row w' 3 (.slice la L.length wQ) L.length (ints L)∧ZL w' b (ZN.Yc n (L.take k) T).2∧w'.ownsRow w 158 5 v (ZN.Yc n (L.take k) T).1.length ((ZN.Yc n (L.take k) T).1.flatMap Z9)) (fun _ i _=>L.length-(intOf i).toNat)
 case atStart=>exact ⟨0,Zo,rfl,JT.o,U'.o,KG.o,TY _ _ _ _⟩
 case round=>
  obtain ⟨k,hk,rfl,Wu,ZY,UX,YH⟩:=hrel;clear JT KG U';have T8:=Zh Wu;have U':=Zh ZY;have Vm:=Zh UX;have Yh:=Zh YH;have TR:=Wu.size;clear Wu YH UX;by_cases VK:k<L.length
  ·obtain ⟨g,off,cap,e1,hg,Yu⟩:=Tb ZY Zo;cases e1;have hc:=Yu k VK;have Bt:=(Ui n (L.take k) T).2.2.2;rw [S4] at Bt
   have HS:Hid (ZN.Yc n (L.take (k+1)) T=((ZN.Yc n (L.take k) T).1++[⟨3,(L.getD k 0:Nat),n,0,0⟩,⟨2,(L.getD k 0:Nat),n,0,0⟩],(ZN.Yc n (L.take k) T).2.WN (L.getD k 0:Nat) n)):=by
    show _=_;rw [xX VK,Gk]
   have ce:=LY b (ZN.Yc n (L.take k) T).2 (L.getD k 0:Nat) n wr Vm.o (Small.Yc Mr.o n _) (D3 n _ T _ (List.Nodup.sublist (List.take_sublist _ _) HND.o) (fun p hp=>HMEM.o p (List.mem_of_mem_take hp)) (wY HND.o VK) (HMEM.o _ (Gp VK)));unfold V4 at ce;dsimp only at ce;have CE:=Zh ce;clear ce Yu ZY;generalize L.getD k 0=p at *
   generalize ZN.Yc n (L.take k) T=G at *
   go_wp2_with (first|(go_at_call 100;(with_reducible refine CE.o.mono ?_);rintro e w2 ⟨rfl,Pb,Sb⟩;have yY:=Zh Pb;have T4:=Zh Sb;have sJ:=Sb.size;clear Pb Sb)|(at_builtin;refine YV rfl (.tmp 17) (.tmp 25) 98 rfl w.heap.size XM _ G.1.length (G.1.flatMap Z9) rfl ?a1 _ 2 ([⟨3,p,n,0,0⟩,⟨2,p,n,0,0⟩].flatMap Z9) rfl ?a2 rfl ?a4 ?a5 ?a6 ?a7 (fun v' w3 HO HG=>?_)))
   case a1=>exact (WG Yh.o T4.o (fun k hk=>by omega)).alloc _
   case a2=>exact Yr _ _ 2 _ ([⟨3,p,n,0,0⟩,⟨2,p,n,0,0⟩].flatMap Z9) Zd rfl
   case a4=>exact X_ _
   case a5=>omega
   case a6=>omega
   case a7=>simp;omega
   go_roundw
   case rel=>
    have Sc:=(WG Yh.o T4.o (fun k hk=>by omega)).alloc (.cells ([⟨3,p,n,0,0⟩,⟨2,p,n,0,0⟩].flatMap Z9).toArray 158);have W8:=Z' w2 (.cells ([⟨3,p,n,0,0⟩,⟨2,p,n,0,0⟩].flatMap Z9).toArray 158);refine ⟨k+1,Zo,Zn,?_,?_,?_,?_⟩
    ·exact mW
    ·exact Row.grown ((U'.o.fr T4.o (Zw _) (Vm.o.FO Zd)).below W8) Sc HG.o Zd
    ·rw [HS.o];exact ZL.grown (yY.o.below W8) Sc HG.o hb
    ·rw [HS.o];dsimp only;rw [UE,OQ];exact HO.o
   case measure=>simp [intOf];omega
  ·have hT:L.take k=L:=FL Zo;rw [hT] at Yh Vm;have yB:=Ui n L T;have mB:=Small.Yc Mr.o n L;have kv:0≤(ZN.Yc n L T).2.YU n:=by rw [Kr,yB.1,←Kr];exact HSA.o
   clear hT ZY yB;generalize ZN.Yc n L T=G at *
   obtain ⟨m,hm,O8,-,-⟩:=XI kv;have O8:G.2.YU n=m:=O8;have cb:=VW b G.2 n wr Vm.o;rw [O8] at cb;have CB:=Zh cb;have HE:Hid (G.2.Ud n={G.2 with Yg:=G.2.Yg.take m++G.2.Yg.drop (m+1)}):=by show _=_;unfold ZN.Ud;rw [O8,Wz,List.eraseIdx_eq_take_drop_succ]
   have Uw:=mB.Yg;unfold small at Uw;clear cb O8 kv mB;go_wp2_with fail
   (with_reducible refine CB.o.mono ?_)
   rintro e V ⟨rfl,NJ⟩;have MN:=Zh (Vm.o.below NJ);have HFV:Hid (Fr w (· = b) w V):=T8.o.trans ((Fr.Z7 _ NJ).mono TR (fun _ _ h=>h));have a_:=Zh (Zx Yh.o NJ);have sK:w.heap.size≤V.heap.size:=PO TR NJ.size;clear NJ CB;obtain ⟨pv,sv,uv,Yn,XJ⟩:=MN.o.Vw;obtain ⟨P,Tt,Sd,Uc⟩:=XJ.Yg;have MJ:m<P.length:=by rw [←Tt,TB] at hm;exact hm
   have hPl:P.length≤100000:=by rw [←Tt,TB] at Uw;exact Uw
   have iP:Hid (∀ x∈P,∃ a n c,x.2 = .slice a n c):=fun x hx=>by obtain ⟨a,c,h,-,-⟩:=Uc x hx;exact ⟨a,_,c,h⟩
   obtain ⟨a,cap,rfl,O9,wq,-,-⟩:=id Sd;obtain ⟨a1,run1,AK,-⟩:=Sp UW a P.length cap m Zo;obtain ⟨a2,pV,AL,-⟩:=SP UW a P.length cap (m+1) Zo O9;rw [show (((m+1:Nat):Int))=(m:Int)+1 by omega] at pV
   have y_:Hid (∀ w',Below V V w'→Row w' 108 (.slice a1 m cap) m ((P.take m).flatMap Zq)):=fun w' h=>by
    have:=AK w' _ Zo (SU _) (Sd.below h)
    rwa [J8 Zq 4 (fun _=>rfl)] at this
   have DG:Hid (∀ w',Below V V w'→Row w' 108 (.slice a2 (P.length-(m+1)) (cap-(m+1))) (P.length-(m+1)) ((P.drop (m+1)).flatMap Zq)):=fun w' h=>by
    have:=AL w' _ (SU _) (Sd.below h)
    rwa [J7 Zq 4 (fun _=>rfl)] at this
   have FX:Hid (((P.take m).flatMap Zq).length=m*4):=by show _=_;rw [SU,S4,Nat.min_eq_left Zo]
   have ud:Hid (((P.drop (m+1)).flatMap Zq).length=(P.length-(m+1))*4):=by show _=_;rw [SU,Rg]
   have HL3:Hid ((P.take m++P.drop (m+1)).length=m+(P.length-(m+1))):=by show _=_;rw [UE,S4,Rg,Nat.min_eq_left Zo]
   have Bw:Hid (∀ u∈(P.take m).flatMap Zq,u.oneCell'=true):=Pr fun x hx=>iP.o x (List.mem_of_mem_take hx)
   have NH:Hid (∀ u∈(P.drop (m+1)).flatMap Zq,u.oneCell'=true):=Pr fun x hx=>iP.o x (List.mem_of_mem_drop hx)
   have HC:Hid (∀ w',Below V V w'→w'.cell? ⟨b,1,none⟩=some (.slice a P.length cap)):=fun w' h=>(h.cell (p:=⟨b,1,none⟩) T_).trans (cell_of Yn 1)
   have Kb:=MN.o.Yz 1;have HFZ:Hid (∀ w',Below V V w'→w'.frozen? ⟨b,1,none⟩=false):=fun w' h=>(h.frozen (p:=⟨b,1,none⟩) T_).trans Kb
   have iH:Hid ((P.take m++P.drop (m+1)).map Prod.fst=G.2.Yg.take m++G.2.Yg.drop (m+1)):=by show _=_;rw [NR,List.map_take,List.map_drop,Tt]
   have BC:Hid (∀ w',Below V V w'→∀ x∈P.take m++P.drop (m+1),Row w' 66 x.2 x.1.ss.length (YO x.1.ss)):=fun w' h x hx=>by
    refine (Uc x ?_).below h;rcases DN.1 hx with hx|hx
    ·exact List.mem_of_mem_take hx
    ·exact List.mem_of_mem_drop hx
   have wF:m+1≤P.length:=MJ;have lG:IntKind.i64.wrap ((m:Int)+1)=(m:Int)+1:=Tm _ Zo;have j0:=HC.o V (YJ _ _);have NT:Below V V V:=YJ _ _;clear Kb XJ Yn Sd AK AL Uc Tt MJ hm Uw;generalize P.length=N at *
   go_wp2_with fail
   go_region_law (first|(refine Zp Zr (.const (.slice none 0 0)) (.tmp 37) 48 Zr V.heap.size UW (.slice none 0 0) 0 [] Zr (TY _ _ _ _) (.slice a1 m cap) m ((P.take m).flatMap Zq) Zr ?_ FX.o Bw.o Zo Zo ?_ ?_;(exact y_.o _ DM);(exact Below.size DM);intro v1 w2 T9 OH;have Yq:Below V V w2:=Below.grown DM OH.o (Below.size DM) (YL (TY V _ 108 4));have c2:=HC.o _ Yq)|(refine Zp Zr (.tmp 38) (.tmp 45) 48 Zr V.heap.size UW v1 (0+m) ([]++(P.take m).flatMap Zq) Zr ?_ (.slice a2 (N-(m+1)) (cap-(m+1))) (N-(m+1)) ((P.drop (m+1)).flatMap Zq) Zr ?_ ud.o NH.o Zo Zo ?_ ?_;(first|exact T9.o|exact Xd T9.o);(exact DG.o _ DM);(exact Below.size DM);intro v2 w3 Px KF;have Wn:Below V V w3:=Below.grown DM KF.o (Below.size DM) (YL T9.o);have c3:=HC.o _ Wn;have f3:=HFZ.o _ Wn;obtain ⟨va,vc,hv⟩:=WE Px.o;subst hv))
   all_goals
    go_wp2;go_ret;have ZY:=Row.Z6 Px.o;rw [J2,←OQ,QD] at ZY;have Fh:ZL w3 b G.2:=MN.o.below Wn;have Np:m+(N-(m+1))=(P.take m++P.drop (m+1)).length:=by rw [HL3.o]
    rw [Np] at ZY;have z_:=Fh.Ij _ iH.o ZY (BC.o _ Wn);rw [←Np] at z_;refine ⟨⟨_,rfl,?_⟩,?_,?_⟩
    ·rw [HES.o];exact (((Row.Z6 a_.o).below Wn).fr ((Fr.refl w3.heap.size (· = b) w3).setAt _ _) (Zw _) (Fh.FO Zd))
    ·rw [HES.o];dsimp only;rw [HE.o];exact z_
    ·exact (HFV.o.trans ((Fr.Z7 _ Wn).mono sK (fun _ _ h=>h))).setAt _ _
end Go.Proofs.Rm
