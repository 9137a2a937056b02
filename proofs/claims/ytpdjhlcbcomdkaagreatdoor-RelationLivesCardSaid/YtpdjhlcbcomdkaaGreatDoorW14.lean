/- Part of a proof. -/
import Derived.Test.YtpdjhlcbcomdkaaGreatDoorW13
set_option linter.unusedVariables false
set_option linter.unusedSimpArgs false
set_option maxRecDepth 100000
set_option maxHeartbeats 16000000
open Go Go.Q Go.Qr
namespace Go.Proofs.Rm
open Go.RowKit Go.Proofs.Heap Go.Proofs.Mem
open Go.Proofs.Od (may key Xz)
structure KX (w:World) (g:Nat) (nm nk:List UInt8) (w':World):Prop where
 c1:w'.cell? ⟨w,4,none⟩=some (.string (str nm))
 c2:w'.cell? ⟨g,1,none⟩=some (.string (str nk))
 Zj:Below w w w'
 s1:w.heap.size<w'.heap.size
 s2:g<w'.heap.size
section
variable {w w1 w2:World} {g:Nat} {nm nk:List UInt8}
theorem KX.below (h:KX w g nm nk w1) (hb:Below w1 w1 w2):KX w g nm nk w2:=
 ⟨(hb.cell (p:=⟨w,4,none⟩) h.s1).trans h.c1,(hb.cell (p:=⟨g,1,none⟩) h.s2).trans h.c2,h.Zj.trans (hb.mono h.Zj.size),Pb h.s1 hb.size,Pb h.s2 hb.size⟩
theorem KX.drew (h:KX w g nm nk w1):KX w g nm nk w1.drew:=h.below (YH _ _).drew
theorem KX.all (h:KX w g nm nk w1):w1.cell? ⟨w,4,none⟩=some (.string (str nm))∧w1.cell? ⟨g,1,none⟩=some (.string (str nk))∧KX w g nm nk w1:=⟨h.c1,h.c2,h⟩
theorem KX.mk' {y0:Int} (h1:Below w w w1) (h2:w.heap.size<w1.heap.size) (h3:w1.cell? ⟨w,4,none⟩=some (.string (str nm))) {e:TypeId}:KX w w1.heap.size nm nk (w1.alloc (.cells (Q0 y0 (str nk)) e)):=by
 refine ⟨?_,?_,h1.alloc h1.size _,by simp;omega,by simp⟩
 ·rw [(Z' w1 _).cell (p:=⟨w,4,none⟩) h2];exact h3
 ·exact cell_of (Z7 w1 _) 1
end
theorem A_ (b:Nat) (T:ZN) (o:Op) (sa ba:Option Addr) (sl sc bl bc:Nat) (w:World) (hR:ZL w b T) (hT:Xz w) (U0:o.name.length<9223372036854775807) (S7:∀ x∈T.ZA,x.name.length<9223372036854775807) (hk:o.kind=2) (Ew:1≤o.peer∧o.peer≤8) :
  Calls Tryz.prog 96 (Qi (some ⟨b,0,none⟩) (Jm o sa sl sc ba bl bc)) w fun e w'=>e = .returned (.int .i64 (T.X5 o))∧Below w w w':=by
 have CA:=Zh (fun (w1:World) (h:Below w w w1)=>SI b T o.peer w1 (hR.below h))
 have hb:=hR.lt
 obtain ⟨kd,p,n,q,nm,ss⟩:=o
 dsimp only at *
 subst hk
 have HJ:Hid (T.X5 ⟨2,p,n,q,nm,ss⟩=if 0≤T.XI p then 9 else if !may nm then 12 else if T.ZA.any (fun x=>decide (key x.name=key nm)) then 9 else 0):=by
  show _=_;unfold ZN.X5;rw [Z4 Zi,Z4 Uq,ZQ rfl]
 have CM:Hid (∀ w1,Below w w w1→Calls Tryz.prog 120 #[.string (str nm)] w1 fun e w'=>e = .returned (.bool (may nm))∧Below w1 w1 w'):=fun w1 h=>Od.AZ (str nm) w1 (by rw [NL];exact U0) (Utf8Tabs_below hT h)
 have CK:Hid (∀ (s:List UInt8) w1,s.length<9223372036854775807→Below w w w1→Calls Tryz.prog 121 #[.string (str s)] w1 fun e w'=>e = .returned (.string (str (key s)))∧Below w1 w1 w'):=fun s w1 hs h=>Od.qw (str s) w1 (by rw [NL];exact hs) (Utf8Tabs_below hT h)
 have eu:=U0
 obtain ⟨pv,sv,uv,Yp,XM⟩:=hR.VC
 have hlen:=XM.ZA.len
 have bJ:Hid (∀ w',Below w w w'→w'.cell? ⟨b,0,none⟩=some pv):=fun w' h=>(h.cell (p:=⟨b,0,none⟩) hb).trans (cell_of Yp 0)
 have HP:Hid (∀ w',Below w w w'→Row w' 103 pv T.ZA.length (T.ZA.flatMap Yz)):=fun w' h=>XM.ZA.below h
 obtain ⟨pa,pc,rfl,_⟩:=id XM.ZA
 have HPN:=Zh S7
 generalize T.X5 ⟨2,p,n,q,nm,ss⟩=jn at *
 generalize T.XI p=at' at *
 clear hR U0 XM Yp S7
 generalize T.ZA=P at *
 by_cases hj:0≤at'
 ·have HF:Hid (jn=9):=by show _=_;rw [HJ.o,ZQ hj]
  go_enter Tryz.func96,Tryz.ntmps96
  go_wp2_with (go_at_call 48;refine (CA.o _ (Z' _ _)).mono ?_;rintro e w1 ⟨rfl,YZ⟩;obtain ⟨Mp,KN⟩:=S3 YZ;have QV:=YZ.size)
  exact jQ
 cases hm:may nm
 ·have HF:Hid (jn=12):=by show _=_;rw [HJ.o,Z4 hj,hm];rfl
  rw [hm] at CM
  clear hm
  go_enter Tryz.func96,Tryz.ntmps96
  go_wp2_with (first|(go_at_call 48;refine (CA.o _ (Z' _ _)).mono ?_;rintro e w1 ⟨rfl,YZ⟩;obtain ⟨Mp,KN⟩:=S3 YZ;have QV:=YZ.size;have Rc:=(Z' w _).trans (YZ.mono Zi))|(go_at_call 120;refine (CM.o _ Rc).mono ?_;rintro e w2 ⟨rfl,Y0⟩))
  go_ret
  exact ⟨YW HF.o.symm,Rc.trans (Y0.mono Rc.size)⟩
 have HJ2:Hid (jn=if P.any (fun x=>decide (key x.name=key nm)) then 9 else 0):=by show _=_;rw [HJ.o,Z4 hj,hm];rfl
 rw [hm] at CM
 clear hm HJ
 go_enter Tryz.func96,Tryz.ntmps96
 go_wp2_with (first|(go_at_call 48;refine (CA.o _ (Z' _ _)).mono ?_;rintro e w1 ⟨rfl,YZ⟩;obtain ⟨Mp,KN⟩:=S3 YZ;have QV:w.heap.size<w1.heap.size:=Pb Zi YZ.size;have Rc:=(Z' w _).trans (YZ.mono Zi);have Ag:=YZ.cell (p:=⟨w,4,none⟩) Zi;simp at Ag)|(go_at_call 120;refine (CM.o _ Rc).mono ?_;rintro e w2 ⟨rfl,Y0⟩;have Yt:=Rc.trans (Y0.mono Rc.size);have Bx:=bJ.o _ Yt;have JK:=(Y0.cell (p:=⟨w,4,none⟩) QV).trans Ag;have Sr:=Pb QV Y0.size))
 clear Bx
 go_loopw [43] (fun i w'=>∃ k:Nat,k≤P.length∧i = .int .i64 k∧Below w w w'∧w.heap.size<w'.heap.size∧w'.cell? ⟨w,4,none⟩=some (.string (str nm))∧Hid (∀ j (h:j<P.length),j<k→key P[j].name≠key nm)) (fun i _=>P.length-(intOf i).toNat)
 case atStart=>exact ⟨0,Tw _,rfl,Yt,Sr,JK,fun j h hj=>by omega⟩
 case round=>
  obtain ⟨k,hk,rfl,W9,T5,CX,KP⟩:=hrel
  by_cases VR:k<P.length
  ·obtain ⟨g,off,e1,hc⟩:=vF (HP.o wr W9) Zo
   subst e1
   obtain ⟨d0,d1⟩:=hc k P[k] (U7 VR)
   have hnl:=HPN.o P[k] (Ot VR)
   have HIN:Hid (key P[k].name=key nm→jn=9):=by
    intro h
    rw [HJ2.o,ZQ]
    rw [List.any_eq_true]
    exact ⟨P[k],Ot VR,by simpa using h⟩
   have lY:Hid (key P[k].name≠key nm→∀ j (h:j<P.length),j<k+1→key P[j].name≠key nm):=fun h j hj JN=>by
    by_cases e:j=k
    ·subst e;exact h
    ·exact KP.o j hj Zo
   clear hc
   generalize P[k]=y at *
   obtain ⟨y0,nk⟩:=y
   dsimp only at d0 d1 HIN lY hnl
   have bB:=Zh (fun w2 (h:Below w w w2)=>CK.o nk w2 hnl h)
   have CK2:=Zh (fun w2 (h:Below w w w2)=>CK.o nm w2 eu h)
   have hkx:=KX.mk' (nk:=nk) (y0:=y0) (e:=103) W9 T5 CX
   by_cases Sh:key nk=key nm
   ·have HF:=Zh (HIN.o Sh)
    rw [Sh] at bB
    clear Sh
    go_wp2_with fail
    go_region_held3 (fun w'=>w'.cell? ⟨w,4,none⟩=some (.string (str nm))∧w'.cell? ⟨wr,1,none⟩=some (.string (str nk))∧KX w wr.heap.size nm nk w') (first|((with_reducible apply KX.all);with_reducible assumption)|((with_reducible apply KX.all);(with_reducible apply KX.drew);with_reducible assumption)|go_keep) (first|(go_at_call 121;go_split_ands;(with_reducible refine Calls.mono (bB.o _ ?_) ?_);(with_reducible apply KX.Zj);(with_reducible assumption);rintro e w2 ⟨rfl,Y0⟩;have kx2:=KX.below WT Y0)|(go_at_call 121;go_split_ands;(with_reducible refine Calls.mono (CK2.o _ ?_) ?_);(with_reducible apply KX.Zj);(with_reducible assumption);rintro e w3 ⟨rfl,VH⟩;have kx3:=KX.below WT VH))
    all_goals (go_wp2;go_ret;exact ⟨YW HF.o.symm,KX.Zj WT⟩)
   ·have HF:=Zh (lY.o Sh)
    have e3:((str (key nk)).toList == (str (key nm)).toList)=false:=by rw [WQ,ByteArray.toList_eq,ByteArray.toList_eq];exact Sh
    clear Sh
    go_wp2_with fail
    go_region_held3 (fun w'=>w'.cell? ⟨w,4,none⟩=some (.string (str nm))∧w'.cell? ⟨wr,1,none⟩=some (.string (str nk))∧KX w wr.heap.size nm nk w') (first|((with_reducible apply KX.all);with_reducible assumption)|((with_reducible apply KX.all);(with_reducible apply KX.drew);with_reducible assumption)|go_keep) (first|(go_at_call 121;go_split_ands;(with_reducible refine Calls.mono (bB.o _ ?_) ?_);(with_reducible apply KX.Zj);(with_reducible assumption);rintro e w2 ⟨rfl,Y0⟩;have kx2:=KX.below WT Y0)|(go_at_call 121;go_split_ands;(with_reducible refine Calls.mono (CK2.o _ ?_) ?_);(with_reducible apply KX.Zj);(with_reducible assumption);rintro e w3 ⟨rfl,VH⟩;have kx3:=KX.below WT VH))
    all_goals
     go_wp2
     go_roundw
     case rel=>exact ⟨k+1,Zo,Zn,KX.Zj WT,KX.s1 WT,KX.c1 WT,HF.o⟩
     case measure=>simp [intOf];omega
  ·have HF:Hid (jn=0):=by
    show _=_
    rw [HJ2.o,Z4]
    rw [List.any_eq_true]
    rintro ⟨x,hx,Ol⟩
    obtain ⟨j,hj,rfl⟩:=List.getElem_of_mem hx
    exact KP.o j hj Zo (by simpa using Ol)
   go_wp2
   go_ret
   exact ⟨YW HF.o.symm,W9⟩
theorem DN (b:Nat) (T:ZN) (o:Op) (s:Wl) (sa ba ca:Option Addr) (sl sc bl bc cc:Nat) (w:World) (hR:ZL w b T) (hk:5≤o.kind∧o.kind≤12) :
  Calls Tryz.prog 123 (Ja (some ⟨b,0,none⟩) (Jm o sa sl sc ba bl bc) (Qp s.num s.own ca s.ss.length cc s.ZG)) w fun e w'=>e = .returned (.int .i64 (T.Xn o s))∧Below w w w':=by
 by_cases h1:o.kind=5∨o.kind=8∨o.kind=9
 ·exact DR b T o s sa ba ca sl sc bl bc cc w h1
 by_cases h2:o.kind=6
 ·exact MD b T o s sa ba ca sl sc bl bc cc w hR h2
 by_cases h3:T.Zb o.peer o.source<0
 ·exact FY b T o s sa ba ca sl sc bl bc cc w hR Zo h3
 ·exact Ib b T o s sa ba ca sl sc bl bc cc w hR Zo Zo
theorem Ba (b:Nat) (T:ZN) (o:Op) (sa ba:Option Addr) (sc bl bc:Nat) (w:World) (hR:ZL w b T) (hk:¬(o.kind=2∧1≤o.peer∧o.peer≤8))
  (Z0:XU w (.slice sa o.ZK.length sc) o.ZK.length (YO o.ZK)) :
  Calls Tryz.prog 96 (Qi (some ⟨b,0,none⟩) (Jm o sa o.ZK.length sc ba bl bc)) w fun e w'=>e = .returned (.int .i64 (T.X5 o))∧Below w w w':=by
 have CA:=Zh (fun (w1:World) (h:Below w w w1)=>SI b T o.peer w1 (hR.below h))
 have CB:=Zh (fun (w1:World) (h:Below w w w1)=>V6 b T o.source w1 (hR.below h))
 have CP:=Zh (fun (w1:World) (h:Below w w w1)=>Ia b T o (T.YU o.source) sa ba sc bl bc w1 (hR.below h) (Z0.below h))
 have HR:=Zh hR
 have hb:=hR.lt
 have HW:Hid (T.X5 o=if o.kind<2∨12<o.kind then 4
 else if o.peer<1∨8<o.peer then 5
 else if o.kind=2 then
  (if 0≤T.XI o.peer then 9 else if !may o.name then 12 else if T.ZA.any (fun x=>decide (key x.name=key o.name)) then 9 else 0)
 else if T.XI o.peer<0 then 8
 else if o.kind=3 then 0
 else if o.source<1∨8<o.source then 5
 else if o.kind=4 then T.TS o (T.YU o.source)
 else if T.YU o.source<0 then 8
 else T.Xn o (T.Wc o.source)):=rfl
 have HS:Hid (0≤T.YU o.source→∃ k:Nat,k<T.Yk.length∧T.YU o.source=k∧T.Wc o.source=T.Yk.getD k UO):=fun h=>by
  obtain ⟨k,hk,e,-,-⟩:=XL h
  refine ⟨k,hk,e,?_⟩
  unfold ZN.Wc
  rw [show T.YU o.source=k from e,Wv]
 have CS:=Zh (fun (s:Wl) (ca:Option Addr) (cc:Nat) (w1:World) (h:Below w w w1) (hk:5≤o.kind∧o.kind≤12)=>DN b T o s sa ba ca o.ZK.length sc bl bc cc w1 (hR.below h) hk)
 obtain ⟨kd,p,n,q,nm,ss⟩:=o
 dsimp only at *
 clear hR Z0
 have HAT:Hid (T.XI p<0∨0≤T.XI p):=by show _∨_;omega
 generalize T.X5 ⟨kd,p,n,q,nm,ss⟩=wv at *
 generalize T.XI p=pat at *
 generalize T.TS ⟨kd,p,n,q,nm,ss⟩ (T.YU n)=pb at *
 by_cases h1:kd<2
 ·have HF:Hid (wv=4):=by show _=_;rw [HW.o,ZQ (Ww h1)]
  exact jY
 by_cases h2:12<kd
 ·have HF:Hid (wv=4):=by show _=_;rw [HW.o,ZQ (Wi h2)]
  exact jY
 by_cases h3:p<1
 ·have HF:Hid (wv=5):=by show _=_;rw [HW.o,Z4 Zo,ZQ (Ww h3)]
  exact jY
 by_cases h4:8<p
 ·have HF:Hid (wv=5):=by show _=_;rw [HW.o,Z4 Zo,ZQ (Wi h4)]
  exact jY
 have yV:kd≠2:=fun h=>hk ⟨h,Zo,Zo⟩
 have HK2:=Zh yV
 have b2:(kd == 2)=false:=by rw [WQ];exact yV
 have DY:Hid (wv=if pat<0 then 8 else if kd=3 then 0 else if n<1∨8<n then 5 else if kd=4 then pb else if T.YU n<0 then 8 else T.Xn ⟨kd,p,n,q,nm,ss⟩ (T.Wc n)):=by
  show _=_;rw [HW.o,Z4 Zo,Z4 Zo,Z4 yV]
 clear HW hk yV
 by_cases h5:pat<0
 ·have HF:Hid (wv=8):=by show _=_;rw [DY.o,ZQ h5]
  have b5:decide (0≤pat)=false:=by simpa using h5
  exact jT
 have h5p:0≤pat:=by omega
 by_cases h6:kd=3
 ·subst h6
  have HF:Hid (wv=0):=by show _=_;rw [DY.o,Z4 h5,ZQ rfl]
  exact jT
 have b3:(kd == 3)=false:=by rw [WQ];exact h6
 by_cases h7:n<1
 ·have HF:Hid (wv=5):=by show _=_;rw [DY.o,Z4 h5,Z4 h6,ZQ (Ww h7)]
  clear h6
  exact jT
 by_cases h8:8<n
 ·have HF:Hid (wv=5):=by show _=_;rw [DY.o,Z4 h5,Z4 h6,ZQ (Wi h8)]
  clear h6
  exact jT
 have rh:Hid (wv=if kd=4 then pb else if T.YU n<0 then 8 else T.Xn ⟨kd,p,n,q,nm,ss⟩ (T.Wc n)):=by
  show _=_;rw [DY.o,Z4 h5,Z4 h6,Z4 Zo]
 clear DY
 by_cases h9:kd=4
 ·subst h9
  have HF:Hid (wv=pb):=by show _=_;rw [rh.o,ZQ rfl]
  clear h6 HS rh
  generalize T.YU n=sat at *
  go_enter Tryz.func96,Tryz.ntmps96
  go_wp2_with (first|(go_at_call 48;(with_reducible refine (CA.o _ (Z' _ _)).mono ?_);rintro e w1 ⟨rfl,YZ⟩;obtain ⟨Mp,KN⟩:=S3 YZ;have QV:w.heap.size<w1.heap.size:=Pb Zi YZ.size;have Rc:=(Z' w _).trans (YZ.mono Zi))|(go_at_call 49;(with_reducible refine (CB.o _ Rc).mono ?_);rintro e w2 ⟨rfl,Y0⟩;obtain ⟨hcl2,hfz2⟩:=S3 Y0;have Sr:=Pb QV Y0.size;have Yt:=Rc.trans (Y0.mono Rc.size))|(go_at_call 122;(with_reducible refine (CP.o _ Yt).mono ?_);rintro e w3 ⟨rfl,VH⟩))
  go_ret
  exact ⟨YW HF.o.symm,Yt.trans (VH.mono Yt.size)⟩
 have b4:(kd == 4)=false:=by rw [WQ];exact h9
 have ld:5≤kd∧kd≤12:=by have:=HK2.o;omega
 by_cases uT:T.YU n<0
 ·have HF:Hid (wv=8):=by show _=_;rw [rh.o,Z4 h9,ZQ uT]
  clear h6 h9 HS rh
  generalize T.YU n=sat at *
  go_enter Tryz.func96,Tryz.ntmps96
  go_wp2_with (first|(go_at_call 48;(with_reducible refine (CA.o _ (Z' _ _)).mono ?_);rintro e w1 ⟨rfl,YZ⟩;obtain ⟨Mp,KN⟩:=S3 YZ;have QV:w.heap.size<w1.heap.size:=Pb Zi YZ.size;have Rc:=(Z' w _).trans (YZ.mono Zi))|(go_at_call 49;(with_reducible refine (CB.o _ Rc).mono ?_);rintro e w2 ⟨rfl,Y0⟩;obtain ⟨hcl2,hfz2⟩:=S3 Y0;have Sr:=Pb QV Y0.size;have Yt:=Rc.trans (Y0.mono Rc.size)))
  go_ret
  exact ⟨YW HF.o.symm,Yt⟩
 ·obtain ⟨k,VR,Sh,hsd⟩:=HS.o Zo
  have HF:Hid (wv=T.Xn ⟨kd,p,n,q,nm,ss⟩ (T.Yk.getD k UO)):=by show _=_;rw [rh.o,Z4 h9,Z4 uT,hsd]
  rw [Sh] at CB
  clear h6 h9 uT rh HS CP Sh hsd
  go_enter Tryz.func96,Tryz.ntmps96
  go_wp2_with fail
  (with_reducible refine (CA.o _ (Z' _ _)).mono ?_)
  rintro e w1 ⟨rfl,YZ⟩
  obtain ⟨Mp,KN⟩:=S3 YZ
  have QV:w.heap.size<w1.heap.size:=Pb Zi YZ.size
  have Rc:=(Z' w _).trans (YZ.mono Zi)
  go_wp2_with fail
  (with_reducible refine (CB.o _ Rc).mono ?_)
  rintro e w2 ⟨rfl,Y0⟩
  obtain ⟨hcl2,hfz2⟩:=S3 Y0
  have Sr:=Pb QV Y0.size
  have Yt:=Rc.trans (Y0.mono Rc.size)
  obtain ⟨pv,sv,uv,Yp,XM⟩:=(HR.o.below Yt).VC
  obtain ⟨P,TF,Z0,T4⟩:=XM.Yk
  have VR:k<P.length:=by rw [←TF,Tx] at VR;exact VR
  have hlen:=Z0.len
  have c1:=cell_of Yp 1
  have HX:Hid (T.Yk.getD k UO=P[k].1):=by show _=_;rw [←TF,Ut VR]
  have hr:=T4 P[k] (Ot VR)
  obtain ⟨pa,pc,rfl,-,-⟩:=id Z0
  obtain ⟨g,off,e1,hc⟩:=SF Z0 Zo
  subst e1
  obtain ⟨d0,d1,d2,d3⟩:=hc k P[k] (U7 VR)
  obtain ⟨ca,cc,hv,-,-⟩:=id hr
  rw [hv] at d2
  have CS2:=Zh (fun (w1:World) (h:Below w w w1)=>CS.o P[k].1 ca cc w1 h ld)
  have dK:=Zh Y0
  have hb1':=Zh YZ
  have oZ:=Zh Yt
  clear hc hv hr T4 Yp XM TF Z0 YZ Y0 Rc Yt
  generalize P[k]=x at *
  obtain ⟨⟨x0,x1,x2,x3⟩,x4⟩:=x
  dsimp only at d0 d1 d2 d3 HX CS2
  go_wp2_with fail
  go_still_tail 9,ZB
  go_wp2_with (go_at_call 123;(with_reducible refine (CS2.o _ (Below.drew oZ.o)).mono ?_);rintro e w3 ⟨rfl,VH⟩)
  go_ret
  exact ⟨YW (by rw [HF.o,HX.o]),oZ.o.drew.trans (VH.mono oZ.o.size)⟩
theorem Wf (b:Nat) (T:ZN) (o:Op) (sa ba:Option Addr) (sc bl bc:Nat) (w:World) (hR:ZL w b T) (hT:Xz w) (U0:o.name.length<9223372036854775807) (S7:∀ x∈T.ZA,x.name.length<9223372036854775807)
  (Z0:XU w (.slice sa o.ZK.length sc) o.ZK.length (YO o.ZK)) :
  Calls Tryz.prog 96 (Qi (some ⟨b,0,none⟩) (Jm o sa o.ZK.length sc ba bl bc)) w fun e w'=>e = .returned (.int .i64 (T.X5 o))∧Below w w w':=by
 by_cases h:o.kind=2∧1≤o.peer∧o.peer≤8
 ·exact A_ b T o sa ba _ sc bl bc w hR hT U0 S7 h.1 h.2
 ·exact Ba b T o sa ba sc bl bc w hR h Z0
end Go.Proofs.Rm
namespace Go.Proofs.Heap
open Go.RowKit
theorem Below.alloc' {B:Nat} {a w:World} (h:Below B a w) (hB:B≤a.heap.size) (o:Obj):Below B a (w.alloc o):=h.alloc (PW hB h.size) o
theorem Below.call {B:Nat} {a w w2:World} (h:Below B a w) (hB:B≤a.heap.size) (hb:Below w w w2):Below B a w2:=h.trans (hb.mono (PW hB h.size))
theorem le2 (w:World) (A B:Obj):w.heap.size+2≤((w.alloc A).alloc B).heap.size:=by simp
end Go.Proofs.Heap
namespace Go.Proofs.Rm
open Go.RowKit Go.Proofs.Heap Go.Proofs.Mem
theorem Ii (b:Nat) (T:ZN) (x:Vj) (w:World) (hR:ZL w b T) (hs:0≤T.YU x.source) (hw:0≤x.want∧x.want<(T.Wc x.source).ss.length) :
  Calls Tryz.prog 99 (Qi (some ⟨b,0,none⟩) (Qk x.peer x.source x.want x.ZR)) w fun e w'=>e = .returned (V8 (T.ask x))∧Below w w w':=by
 obtain ⟨k,VR,Sh,-,-⟩:=XL hs
 have Sh:T.YU x.source=k:=Sh
 have CB:=Zh (fun (w1:World) (h:Below w w w1)=>V6 b T x.source w1 (hR.below h))
 rw [Sh] at CB
 have hb:=hR.lt
 have HSD:Hid (T.Wc x.source=T.Yk.getD k UO):=by show _=_;unfold ZN.Wc;rw [Sh,Wv]
 have HA:Hid (T.ask x=⟨9,(T.Wc x.source).own,(T.Wc x.source).num,0,(T.Wc x.source).ss.getD x.want.toNat 0⟩):=rfl
 obtain ⟨j,hj⟩:=QT hw.1
 obtain ⟨pv,sv,uv,Yp,XM⟩:=hR.VC
 obtain ⟨P,TF,Z0,T4⟩:=XM.Yk
 have VR:k<P.length:=by rw [←TF,Tx] at VR;exact VR
 have hlen:=Z0.len
 have c1:=cell_of Yp 1
 have HX:Hid (T.Yk.getD k UO=P[k].1):=by show _=_;rw [←TF,Ut VR]
 have hr:=T4 P[k] (Ot VR)
 obtain ⟨pa,pc,rfl,-,-⟩:=id Z0
 obtain ⟨g,off,e1,hc⟩:=SF Z0 Zo
 subst e1
 obtain ⟨d0,d1,d2,d3⟩:=hc k P[k] (U7 VR)
 rw [hj,HSD.o,HX.o] at hw
 have S4:j<P[k].1.ss.length:=by omega
 obtain ⟨g2,AQ,cap2,Io,hlc,wR,o8,Yw⟩:=NQ hr Zo
 have hx:=Yw j S4
 have hl2:=hr.len
 rw [Io] at d2
 have HT:Hid (T.ask x=⟨9,P[k].1.own,P[k].1.num,0,P[k].1.ss.getD j 0⟩):=by show _=_;rw [HA.o,HSD.o,HX.o,hj];rfl
 have hg:g<w.heap.size:=by
  rcases Nat.lt_or_ge g w.heap.size with h|h
  ·exact h
  ·simp [World.cell?,Fm h] at d0
 clear hR hs Yw hc hr T4 Yp XM TF Z0 HSD HX Sh HA hw
 generalize T.ask x=TA at *
 obtain ⟨x0,x1,x2,x3⟩:=x
 dsimp only at *
 subst hj
 generalize P[k].1.ss.getD j 0=xx at *
 generalize P[k].1.ss.length=xl at *
 generalize P[k].1.own=xo at *
 generalize P[k].1.num=xn at *
 generalize P[k].1.ZG=xm at *
 generalize P[k].2=xv at *
 generalize P.length=N at *
 have Zz:Hid (∀ w',Below (w.heap.size+2) ((w.alloc (.cells (Qk x0 x1 j x3) 105)).alloc (.cells (Qh 0 0 0 0 0) 158)) w' →
   w'.cell? ⟨b,1,none⟩=some (.slice (some ⟨g,off,none⟩) N pc)∧w'.cell? ⟨w,1,none⟩=some (.int .i64 x1)∧w'.cell? ⟨g,off+k*4,none⟩=some (.int .i64 xn)∧w'.cell? ⟨g,off+k*4+1,none⟩=some (.int .i64 xo)∧w'.cell? ⟨g,off+k*4+2,none⟩=some (.slice (some ⟨g2,AQ,none⟩) xl cap2)∧w'.cell? ⟨g,off+k*4+3,none⟩=some (.bool xm)∧Below (w.heap.size+2) ((w.alloc (.cells (Qk x0 x1 j x3) 105)).alloc (.cells (Qh 0 0 0 0 0) 158)) w'):=fun w' h=>by
  have h1:Below w w w':=(((YH _ _).alloc (Zw _) _).alloc Zi _).trans (h.mono Zo)
  exact ⟨(h1.cell (p:=⟨b,1,none⟩) hb).trans c1,(h.cell (p:=⟨w,1,none⟩) Uj).trans (cell_of (V9 w _ _).1 1),(h1.cell (p:=⟨g,off+k*4,none⟩) hg).trans d0,(h1.cell (p:=⟨g,off+k*4+1,none⟩) hg).trans d1,(h1.cell (p:=⟨g,off+k*4+2,none⟩) hg).trans d2,(h1.cell (p:=⟨g,off+k*4+3,none⟩) hg).trans d3,h⟩
 have KW:Hid (∀ w',Below (w.heap.size+2) ((w.alloc (.cells (Qk x0 x1 j x3) 105)).alloc (.cells (Qh 0 0 0 0 0) 158)) w'→Below w w w'):=fun w' h=>(((YH _ _).alloc (Zw _) _).alloc Zi _).trans (h.mono Zo)
 have KV:Hid (∀ w',Below (w.heap.size+2) ((w.alloc (.cells (Qk x0 x1 j x3) 105)).alloc (.cells (Qh 0 0 0 0 0) 158)) w'→w'.cell? ⟨g2,AQ+j,none⟩=some (.int .u32 xx)∧w'.cell? ⟨w,2,none⟩=some (.int .i64 j)∧(w'.cell? ⟨w.heap.size+1,0,none⟩=some (.int .i64 0)∧w'.cell? ⟨w.heap.size+1,1,none⟩=some (.int .i64 0)∧w'.cell? ⟨w.heap.size+1,2,none⟩=some (.int .i64 0)∧w'.cell? ⟨w.heap.size+1,3,none⟩=some (.int .i64 0)∧w'.cell? ⟨w.heap.size+1,4,none⟩=some (.int .u32 0)) ∧
   (∀ o,w'.frozen? ⟨w.heap.size+1,o,none⟩=false)):=fun w' h=>by
  have h1:Below w w w':=KW.o _ h
  have hB:=fun o=>(h.cell (p:=⟨w.heap.size+1,o,none⟩) Uj).trans (cell_of (V9 w _ _).2 o)
  refine ⟨(h1.cell (p:=⟨g2,AQ+j,none⟩) o8).trans hx,(h.cell (p:=⟨w,2,none⟩) Uj).trans (cell_of (V9 w _ _).1 2),⟨hB 0,hB 1,hB 2,hB 3,hB 4⟩,fun o=>(h.frozen (p:=⟨w.heap.size+1,o,none⟩) Uj).trans ?_⟩
  simp only [World.frozen?,(V9 w _ _).2]
  simp
 have K0:Below (w.heap.size+2) ((w.alloc (.cells (Qk x0 x1 j x3) 105)).alloc (.cells (Qh 0 0 0 0 0) 158)) ((w.alloc (.cells (Qk x0 x1 j x3) 105)).alloc (.cells (Qh 0 0 0 0 0) 158)):=YH _ _
 go_enter Tryz.func99,Tryz.ntmps99
 go_wp2_with fail
 go_region_held3 (fun w'=>w'.cell? ⟨b,1,none⟩=some (.slice (some ⟨g,off,none⟩) N pc)∧w'.cell? ⟨w,1,none⟩=some (.int .i64 x1)∧w'.cell? ⟨g,off+k*4,none⟩=some (.int .i64 xn)∧w'.cell? ⟨g,off+k*4+1,none⟩=some (.int .i64 xo)∧w'.cell? ⟨g,off+k*4+2,none⟩=some (.slice (some ⟨g2,AQ,none⟩) xl cap2)∧w'.cell? ⟨g,off+k*4+3,none⟩=some (.bool xm)∧Below (w.heap.size+2) ((w.alloc (.cells (Qk x0 x1 j x3) 105)).alloc (.cells (Qh 0 0 0 0 0) 158)) w')
  (first|(exact Zz.o _ WT)|(exact Zz.o _ (Below.drew WT))|(exact Zz.o _ (Heap.Below.alloc' WT (le2 _ _ _) _))|(exact Zz.o _ (Heap.Below.alloc' (Below.drew WT) (le2 _ _ _) _))|(exact Zz.o _ (Below.setCell (Below.setCell (Below.setCell (Below.setCell WT Zi _) Zi _) Zi _) Zi _))|(exact Zz.o _ (Below.setCell (Below.setCell (Below.setCell (Below.setCell (Below.drew WT) Zi _) Zi _) Zi _) Zi _))|go_keep)
  (first|(go_at_call 49;go_split_ands;(with_reducible refine Calls.mono (CB.o _ (KW.o _ WT)) ?_);rintro e w2 ⟨rfl,Y0⟩;have Yt:=Heap.Below.call WT (le2 _ _ _) Y0;obtain ⟨Mp,KN⟩:=S3 Y0;have Sr:=Y0.size)|fail)
 all_goals
  clear K0
  obtain ⟨-,-,-,-,-,-,Oa⟩:= ‹_∧_∧_∧_∧_∧_∧Below (w.heap.size+2) _ _›
  obtain ⟨y1,y2,⟨y3,y4,y5,y6,y7⟩,Wx⟩:=KV.o _ Oa
  have z0:=Wx 0
  have z1:=Wx 1
  have z2:=Wx 2
  have z3:=Wx 3
  have z4:=Wx 4
  have bI:=Zh Oa
  have dY:(0:Int)≤(j:Int):=rq j
  have hj1:(j:Int)<(xl:Int):=Ou.2 S4
  clear Oa Wx
  go_wp2_with fail
  go_region
  go_wp2
  refine VJ (v:=V8 ⟨9,xo,xn,0,xx⟩) (by simp [results,Tryz.results99,go_sem,V8,y3,y4,y5,y6,y7]) rfl ⟨by rw [HT.o],?_⟩
  exact ((((((KW.o _ bI.o).setCell Zi _).setCell Zi _).setCell Zi _).setCell Zi _).setCell Zi _).drew
theorem OB {α:Type} {p:α→Bool} {l:List α}:0≤findAt p l↔∃ x∈l,p x=true:=by
 constructor
 ·intro h
  obtain ⟨k,hk,-,hp,-⟩:=XL h
  exact ⟨l[k],Ot hk,hp⟩
 ·rintro ⟨x,hx,hp⟩
  unfold findAt
  cases hf:l.findIdx? p with
  | none=>
   rw [List.findIdx?_eq_none_iff] at hf
   have:=hf x hx
   rw [hp] at this;cases this
  | some i=>exact rq i
theorem IY {α:Type} {l:List α} {k:Nat} {x:α} (hx:x∈l) (h:∀ hk:k<l.length,l[k]≠x):x∈l.eraseIdx k:=by
 obtain ⟨i,hi,rfl⟩:=List.getElem_of_mem hx
 rw [List.mem_eraseIdx_iff_getElem]
 refine ⟨i,hi,?_,rfl⟩
 intro e
 subst e
 exact h hi rfl
theorem E7 {T:ZN} {p n:Int}:0≤T.Zb p n↔∃ x∈T.Z5,x.peer=p∧x.source=n:=by
 unfold ZN.Zb
 rw [OB]
 simp
theorem La {T:ZN} {p n q m:Int} (WM:¬(q=p∧m=n)) (h0:0≤T.Zb p n) (h:0≤T.Zb q m):0≤(T.WR p n).Zb q m:=by
 obtain ⟨x,hx,hxq,hxm⟩:=E7.1 h
 obtain ⟨k,hk,Sh,hp,-⟩:=XL h0
 rw [E7]
 refine ⟨x,?_,hxq,hxm⟩
 unfold ZN.WR
 refine IY hx fun yV e=>?_
 have Sh:T.Zb p n=k:=Sh
 have:T.Z5[k]=x:=by rw [←e];congr 1;rw [Sh,Wv]
 rw [this] at hp
 simp at hp
 exact WM ⟨Zo,Zo⟩
theorem GF (n:Int):∀ (l:List Nat) (p:Nat) (T:ZN),ZN.Yg n (l++[p]) T=((ZN.Yg n l T).1++[⟨3,p,n,0,0⟩,⟨2,p,n,0,0⟩],(ZN.Yg n l T).2.WR p n)
 | [],p,T=>rfl
 | q :: l,p,T=>by
  show ZN.Yg n (q :: (l++[p])) T=_
  unfold ZN.Yg
  rw [GF n l p]
  rfl
theorem Us (n:Int):∀ (l:List Nat) (T:ZN),(ZN.Yg n l T).2.Yk=T.Yk∧(ZN.Yg n l T).2.ZA=T.ZA∧(ZN.Yg n l T).2.Z5.length≤T.Z5.length∧(ZN.Yg n l T).1.length=2*l.length
 | [],T=>⟨rfl,rfl,Zw _,rfl⟩
 | q :: l,T=>by
  obtain ⟨h1,h2,h3,h4⟩:=Us n l (T.WR q n)
  unfold ZN.Yg
  refine ⟨h1,h2,PW h3 (by unfold ZN.WR;dsimp only;exact (List.eraseIdx_sublist _ _).length_le),?_⟩
  dsimp only
  rw [List.length_cons,List.length_cons,h4,List.length_cons];omega
theorem Ed (n:Int):∀ (l:List Nat) (T:ZN) (q:Nat),l.Nodup→(∀ p∈l,0≤T.Zb (p:Int) n)→q ∉ l→0≤T.Zb (q:Int) n→0≤(ZN.Yg n l T).2.Zb (q:Int) n
 | [],T,q,_,_,_,h=>h
 | p :: l,T,q,hd,hl,hq,h=>by
  unfold ZN.Yg
  dsimp only
  rw [List.nodup_cons] at hd
  have hp:=hl p (List.mem_cons_self ..)
  refine Ed n l (T.WR p n) q hd.2 (fun r hr=>La (fun e=>hd.1 ?_) hp (hl r (List.mem_cons_of_mem _ hr))) (fun e=>hq (List.mem_cons_of_mem _ e)) (La (fun e=>hq ?_) hp h)
  ·have:r=p:=by omega
   rw [←this];exact hr
  ·have:q=p:=by omega
   rw [this];exact List.mem_cons_self ..
theorem Km {T:ZN} {n:Int} {p:Nat}:p∈T.Zx n↔1≤p∧p≤8∧0≤T.Zb (p:Int) n:=by
 unfold ZN.Zx ZN.Vy
 rw [aN,wD]
 constructor
 ·rintro ⟨⟨q,hq,rfl⟩,h2⟩
  rw [List.mem_range] at hq
  exact ⟨Zo,Zo,of_decide_eq_true h2⟩
 ·rintro ⟨h1,h2,h3⟩
  exact ⟨⟨p-1,by rw [List.mem_range];omega,Zo⟩,We h3⟩
theorem JL (T:ZN) (n:Int):(T.Zx n).Nodup:=by
 unfold ZN.Zx ZN.Vy
 refine List.Pairwise.filter _ ?_
 rw [List.pairwise_map]
 exact List.Pairwise.imp (fun h e=>h Zo) List.nodup_range
theorem Small.WR {T:ZN} (h:T.Small) (p n:Int):(T.WR p n).Small:=
 ⟨h.ZA,h.Yk,PW (List.eraseIdx_sublist _ _).length_le h.Z5⟩
theorem Small.Yg {T:ZN} (h:T.Small) (n:Int) (l:List Nat):(ZN.Yg n l T).2.Small:=by
 obtain ⟨h1,h2,h3,-⟩:=Us n l T
 exact ⟨by rw [h2];exact h.ZA,by rw [h1];exact h.Yk,PW h3 h.Z5⟩
theorem Small.Um {T:ZN} (h:T.Small) (n:Int):(T.Um n).Small:=⟨h.ZA,PW (List.eraseIdx_sublist _ _).length_le h.Yk,h.Z5⟩
theorem Small.Yq {T:ZN} (h:T.Small) (n:Int):(T.Yq n).2.Small:=Small.Um (Small.Yg h n _) n
theorem MJ (T:ZN) (n:Int):(T.Yq n).1.length≤16:=by
 have h1:=(Us n (T.Zx n) T).2.2.2
 have h2:=Sl T n 8
 have h2:(T.Zx n).length≤8:=h2
 show (ZN.Yg n (T.Zx n) T).1.length≤16
 omega
theorem SC (p:Int) (T:ZN):∀ k,(ZN.ZM p T k).2.Yk=T.Yk∧(ZN.ZM p T k).2.ZA=T.ZA∧(T.Small→(ZN.ZM p T k).2.Small)∧(ZN.ZM p T k).1.length≤k
 | 0=>⟨rfl,rfl,id,Zw _⟩
 | k+1=>by
  obtain ⟨h1,h2,h3,h4⟩:=SC p T k
  unfold ZN.ZM
  dsimp only
  split
  ·exact ⟨h1,h2,fun h=>Small.WR (h3 h) _ _,by dsimp only;rw [UM];simp;omega⟩
  ·exact ⟨h1,h2,h3,Zo⟩
theorem SD (p:Int) (T:ZN):∀ k,(ZN.ZI p T k).2.ZA=T.ZA∧(T.Small→(ZN.ZI p T k).2.Small)∧(ZN.ZI p T k).1.length≤k*16
 | 0=>⟨rfl,id,Zw _⟩
 | k+1=>by
  obtain ⟨h2,h3,h4⟩:=SD p T k
  unfold ZN.ZI
  dsimp only
  split
  ·refine ⟨?_,fun h=>Small.Yq (h3 h) _,?_⟩
   ·dsimp only
    show (ZN.Yg _ _ _).2.ZA=_
    rw [(Us _ _ _).2.1];exact h2
   ·dsimp only
    rw [UM]
    have:=MJ (ZN.ZI p T k).2 ((k:Int)+1)
    omega
  ·exact ⟨h2,h3,Zo⟩
theorem LJ (p:Int) (T:ZN) (k:Nat):ZN.ZM p T (k+1)=if 0≤(ZN.ZM p T k).2.Zb p ((k:Int)+1) then ((ZN.ZM p T k).1++[⟨2,p,(k:Int)+1,0,0⟩],(ZN.ZM p T k).2.WR p ((k:Int)+1)) else ZN.ZM p T k:=rfl
theorem LK (p:Int) (T:ZN) (k:Nat):ZN.ZI p T (k+1)=if (ZN.ZI p T k).2.owner ((k:Int)+1)=p then ((ZN.ZI p T k).1++((ZN.ZI p T k).2.Yq ((k:Int)+1)).1,((ZN.ZI p T k).2.Yq ((k:Int)+1)).2) else ZN.ZI p T k:=rfl
theorem KG {T:ZN} {n:Int}:0≤T.YU n↔∃ x∈T.Yk,x.num=n:=by
 unfold ZN.YU
 rw [OB]
 simp
theorem Hh {T:ZN} {n:Int}:0≤T.XI n↔∃ x∈T.ZA,x.num=n:=by
 unfold ZN.XI
 rw [OB]
 simp
theorem tP {T:ZN} {n p:Int} (hp:p≠0) (h:T.owner n=p):0≤T.YU n:=by
 unfold ZN.owner at h
 split at h
 ·exact absurd h.symm hp
 ·omega
end Go.Proofs.Rm
namespace Go.Proofs.Rm
open Go.RowKit Go.Proofs.Heap Go.Proofs.Mem
theorem ZL.grown {w w':World} {b:Nat} {T:ZN} (h:ZL w b T) {base:Nat} {size:Nat} {vo:Value} {m:Nat} {ys:List Value} (ho:w.ownsRow base 158 size vo m ys) (hg:w.grownBy w' vo.ownBlock) (hb:b<base):ZL w' b T:=by
 have Po:=h.lt
 obtain ⟨pv,sv,uv,hc,h1,⟨ms,h2,h3,h4⟩,h5⟩:=h.VC
 exact ⟨pv,sv,uv,by rw [hg.block b Po (fun e=>by have:=YL ho b e.symm;omega)];exact hc,Row.grown h1 ho hg Zd,⟨ms,h2,Row.grown h3 ho hg Zd,fun m hm=>Row.grown (h4 m hm) ho hg Zd⟩,Row.grown h5 ho hg Zd⟩
theorem SZ (l:List (Wl × Value)):(l.flatMap Zt).length=l.length*4:=XK Zt 4 (fun _=>rfl) l
theorem PM {l:List (Wl × Value)} (h:∀ m∈l,∃ a n c,m.2 = .slice a n c):∀ u∈l.flatMap Zt,u.oneCell'=true:=by
 intro u hu
 obtain ⟨x,hx,hu⟩:=List.mem_flatMap.1 hu
 obtain ⟨a,n,c,e⟩:=h x hx
 obtain ⟨x,v⟩:=x
 dsimp only at e
 subst e
 exact LU x a n c u hu
theorem GJ {l:List Nat} {k:Nat} (h:k<l.length):l.getD k 0∈l:=by
 rw [Rw,U7 h];exact Ot h
theorem yw {l:List Nat} {k:Nat} (h:k<l.length):l.take (k+1)=l.take k++[l.getD k 0]:=by
 rw [List.take_succ_eq_append_getElem h,Rw,U7 h];rfl
theorem xI {l:List Nat} (h:l.Nodup) {k:Nat} (hk:k<l.length):l.getD k 0 ∉ l.take k:=by
 rw [Rw,U7 hk]
 intro hm
 obtain ⟨i,hi,e⟩:=List.getElem_of_mem hm
 rw [Tg] at hi
 rw [List.getElem_take] at e
 exact (List.pairwise_iff_getElem.1 h) i k Zo hk Zo e
theorem PZ (b:Nat) (T:ZN) (n:Int) (w:World) (hR:ZL w b T) (Vq:T.Small) (hs:0≤T.YU n) :
  Calls Tryz.prog 98 (Qj (some ⟨b,0,none⟩) n) w fun e w'=>(∃ v,e = .returned v∧YG w' v (T.Yq n).1)∧ZL w' b (T.Yq n).2∧Fr w (· = b) w w':=by
 have hb:=hR.lt
 have CH:=Zh (J_ b T n w hR)
 have HLL:(T.Zx n).length≤8:=Sl T n 8
 have HND:=Zh (JL T n)
 have HMEM:Hid (∀ p∈T.Zx n,0≤T.Zb (p:Int) n):=fun p hp=>(Km.1 hp).2.2
 have HES:Hid (T.Yq n=((ZN.Yg n (T.Zx n) T).1,(ZN.Yg n (T.Zx n) T).2.Um n)):=rfl
 have HR:=Zh hR
 have MF:=Zh Vq
 have HSA:=Zh hs
 clear hR Vq hs
 generalize T.Zx n=L at *
 go_enter Tryz.func98,Tryz.ntmps98
 go_wp2_with fail
 (with_reducible refine CH.o.mono ?_)
 rintro e w1 ⟨⟨lv,rfl,Z0⟩,YZ⟩
 have Vi:=Zh Z0
 have J5:Hid (Fr w (· = b) w w1):=Fr.Z8 _ YZ
 have KT:=Zh (HR.o.below YZ)
 obtain ⟨la,xA,rfl,-,-⟩:=id Z0
 clear YZ Z0
 go_wp2_with fail
 go_loopw [5,13] (fun v i w'=>∃ k:Nat,k≤L.length∧i = .int .i64 k∧Fr w (· = b) w w'∧Row w' 3 (.slice la L.length xA) L.length (ints L)∧ZL w' b (ZN.Yg n (L.take k) T).2∧w'.ownsRow w 158 5 v (ZN.Yg n (L.take k) T).1.length ((ZN.Yg n (L.take k) T).1.flatMap Z9)) (fun _ i _=>L.length-(intOf i).toNat)
 case atStart=>exact ⟨0,Zo,rfl,J5.o,Vi.o,KT.o,Ua _ _ _ _⟩
 case round=>
  obtain ⟨k,hk,rfl,Wx,Z0,U3,YJ⟩:=hrel
  clear J5 KT Vi
  have Uh:=Zh Wx
  have Vi:=Zh Z0
  have Vr:=Zh U3
  have Yl:=Zh YJ
  have T5:=Wx.size
  clear Wx YJ U3
  by_cases VR:k<L.length
  ·obtain ⟨g,off,cap,e1,hg,Yw⟩:=Ti Z0 Zo
   cases e1
   have hc:=Yw k VR
   have BN:=(Us n (L.take k) T).2.2.2
   rw [Tg] at BN
   have HS:Hid (ZN.Yg n (L.take (k+1)) T=((ZN.Yg n (L.take k) T).1++[⟨3,(L.getD k 0:Nat),n,0,0⟩,⟨2,(L.getD k 0:Nat),n,0,0⟩],(ZN.Yg n (L.take k) T).2.WR (L.getD k 0:Nat) n)):=by
    show _=_;rw [yw VR,GF]
   have ce:=Mh b (ZN.Yg n (L.take k) T).2 (L.getD k 0:Nat) n wr Vr.o (Small.Yg MF.o n _) (Ed n _ T _ (List.Nodup.sublist (List.take_sublist _ _) HND.o) (fun p hp=>HMEM.o p (List.mem_of_mem_take hp)) (xI HND.o VR) (HMEM.o _ (GJ VR)))
   unfold V8 at ce
   dsimp only at ce
   have CE:=Zh ce
   clear ce Yw Z0
   generalize L.getD k 0=p at *
   generalize ZN.Yg n (L.take k) T=G at *
   go_wp2_with (first|(go_at_call 100;(with_reducible refine CE.o.mono ?_);rintro e w2 ⟨rfl,Ps,Sm⟩;have zC:=Zh Ps;have Ud:=Zh Sm;have tD:=Sm.size;clear Ps Sm)|(at_builtin;refine YV rfl (.tmp 17) (.tmp 25) 98 rfl w.heap.size XP _ G.1.length (G.1.flatMap Z9) rfl ?a1 _ 2 ([⟨3,p,n,0,0⟩,⟨2,p,n,0,0⟩].flatMap Z9) rfl ?a2 rfl ?a4 ?a5 ?a6 ?a7 (fun v' w3 HO HG=>?_)))
   case a1=>exact (WJ Yl.o Ud.o (fun k hk=>by omega)).alloc _
   case a2=>exact Yu _ _ 2 _ ([⟨3,p,n,0,0⟩,⟨2,p,n,0,0⟩].flatMap Z9) Zd rfl
   case a4=>exact Yc _
   case a5=>omega
   case a6=>omega
   case a7=>simp;omega
   go_roundw
   case rel=>
    have Sn:=(WJ Yl.o Ud.o (fun k hk=>by omega)).alloc (.cells ([⟨3,p,n,0,0⟩,⟨2,p,n,0,0⟩].flatMap Z9).toArray 158)
    have W9:=Z' w2 (.cells ([⟨3,p,n,0,0⟩,⟨2,p,n,0,0⟩].flatMap Z9).toArray 158)
    refine ⟨k+1,Zo,Zn,?_,?_,?_,?_⟩
    ·exact nO
    ·exact Row.grown ((Vi.o.fr Ud.o (Zw _) (Vr.o.F8 Zd)).below W9) Sn HG.o Zd
    ·rw [HS.o]
     exact ZL.grown (zC.o.below W9) Sn HG.o hb
    ·rw [HS.o]
     dsimp only
     rw [UM,O_]
     exact HO.o
   case measure=>simp [intOf];omega
  ·have hT:L.take k=L:=F5 Zo
   rw [hT] at Yl Vr
   have yU:=Us n L T
   have ni:=Small.Yg MF.o n L
   have ll:0≤(ZN.Yg n L T).2.YU n:=by rw [KG,yU.1,←KG];exact HSA.o
   clear hT Z0 yU
   generalize ZN.Yg n L T=G at *
   obtain ⟨m,hm,Pp,-,-⟩:=XL ll
   have Pp:G.2.YU n=m:=Pp
   have cb:=V6 b G.2 n wr Vr.o
   rw [Pp] at cb
   have CB:=Zh cb
   have HE:Hid (G.2.Um n={G.2 with Yk:=G.2.Yk.take m++G.2.Yk.drop (m+1)}):=by show _=_;unfold ZN.Um;rw [Pp,Wv,List.eraseIdx_eq_take_drop_succ]
   have Uz:=ni.Yk
   unfold small at Uz
   clear cb Pp ll ni
   go_wp2_with fail
   (with_reducible refine CB.o.mono ?_)
   rintro e V ⟨rfl,NY⟩
   have M4:=Zh (Vr.o.below NY)
   have HFV:Hid (Fr w (· = b) w V):=Uh.o.trans ((Fr.Z8 _ NY).mono T5 (fun _ _ h=>h))
   have bU:=Zh (Zy Yl.o NY)
   have tE:w.heap.size≤V.heap.size:=PW T5 NY.size
   clear NY CB
   obtain ⟨pv,sv,uv,Yp,XM⟩:=M4.o.VC
   obtain ⟨P,TF,Sp,T4⟩:=XM.Yk
   have KO:m<P.length:=by rw [←TF,Tx] at hm;exact hm
   have hPl:P.length≤100000:=by rw [←TF,Tx] at Uz;exact Uz
   have jB:Hid (∀ x∈P,∃ a n c,x.2 = .slice a n c):=fun x hx=>by obtain ⟨a,c,h,-,-⟩:=T4 x hx;exact ⟨a,_,c,h⟩
   obtain ⟨a,cap,rfl,Pq,wR,-,-⟩:=id Sp
   obtain ⟨a1,run1,A4,-⟩:=Sy U2 a P.length cap m Zo
   obtain ⟨a2,qE,A5,-⟩:=SV U2 a P.length cap (m+1) Zo Pq
   rw [show (((m+1:Nat):Int))=(m:Int)+1 by omega] at qE
   have zF:Hid (∀ w',Below V V w'→Row w' 108 (.slice a1 m cap) m ((P.take m).flatMap Zt)):=fun w' h=>by
    have:=A4 w' _ Zo (SZ _) (Sp.below h)
    rwa [Kk Zt 4 (fun _=>rfl)] at this
   have DY:Hid (∀ w',Below V V w'→Row w' 108 (.slice a2 (P.length-(m+1)) (cap-(m+1))) (P.length-(m+1)) ((P.drop (m+1)).flatMap Zt)):=fun w' h=>by
    have:=A5 w' _ (SZ _) (Sp.below h)
    rwa [Kj Zt 4 (fun _=>rfl)] at this
   have Gf:Hid (((P.take m).flatMap Zt).length=m*4):=by show _=_;rw [SZ,Tg,Nat.min_eq_left Zo]
   have uD:Hid (((P.drop (m+1)).flatMap Zt).length=(P.length-(m+1))*4):=by show _=_;rw [SZ,Rx]
   have HL3:Hid ((P.take m++P.drop (m+1)).length=m+(P.length-(m+1))):=by show _=_;rw [UM,Tg,Rx,Nat.min_eq_left Zo]
   have BQ:Hid (∀ u∈(P.take m).flatMap Zt,u.oneCell'=true):=PM fun x hx=>jB.o x (List.mem_of_mem_take hx)
   have NV:Hid (∀ u∈(P.drop (m+1)).flatMap Zt,u.oneCell'=true):=PM fun x hx=>jB.o x (List.mem_of_mem_drop hx)
   have HC:Hid (∀ w',Below V V w'→w'.cell? ⟨b,1,none⟩=some (.slice a P.length cap)):=fun w' h=>(h.cell (p:=⟨b,1,none⟩) Uj).trans (cell_of Yp 1)
   have KN:=M4.o.YC 1
   have HFZ:Hid (∀ w',Below V V w'→w'.frozen? ⟨b,1,none⟩=false):=fun w' h=>(h.frozen (p:=⟨b,1,none⟩) Uj).trans KN
   have jr:Hid ((P.take m++P.drop (m+1)).map Prod.fst=G.2.Yk.take m++G.2.Yk.drop (m+1)):=by show _=_;rw [N7,List.map_take,List.map_drop,TF]
   have BW:Hid (∀ w',Below V V w'→∀ x∈P.take m++P.drop (m+1),Row w' 66 x.2 x.1.ss.length (YO x.1.ss)):=fun w' h x hx=>by
    refine (T4 x ?_).below h
    rcases D5.1 hx with hx|hx
    ·exact List.mem_of_mem_take hx
    ·exact List.mem_of_mem_drop hx
   have sY:m+1≤P.length:=KO
   have mo:IntKind.i64.wrap ((m:Int)+1)=(m:Int)+1:=Ty _ Zo
   have kP:=HC.o V (YH _ _)
   have N9:Below V V V:=YH _ _
   clear KN XM Yp Sp A4 A5 T4 TF KO hm Uz
   generalize P.length=N at *
   go_wp2_with fail
   go_region_law (first|(refine Zp Zr (.const (.slice none 0 0)) (.tmp 37) 48 Zr V.heap.size U2 (.slice none 0 0) 0 [] Zr (Ua _ _ _ _) (.slice a1 m cap) m ((P.take m).flatMap Zt) Zr ?_ Gf.o BQ.o Zo Zo ?_ ?_;(exact zF.o _ D4);(exact Below.size D4);intro v1 w2 Ui O5;have Yt:Below V V w2:=Below.grown D4 O5.o (Below.size D4) (YL (Ua V _ 108 4));have c2:=HC.o _ Yt)|(refine Zp Zr (.tmp 38) (.tmp 45) 48 Zr V.heap.size U2 v1 (0+m) ([]++(P.take m).flatMap Zt) Zr ?_ (.slice a2 (N-(m+1)) (cap-(m+1))) (N-(m+1)) ((P.drop (m+1)).flatMap Zt) Zr ?_ uD.o NV.o Zo Zo ?_ ?_;(first|exact Ui.o|exact Xi Ui.o);(exact DY.o _ D4);(exact Below.size D4);intro v2 w3 PU KS;have Wp:Below V V w3:=Below.grown D4 KS.o (Below.size D4) (YL Ui.o);have c3:=HC.o _ Wp;have f3:=HFZ.o _ Wp;obtain ⟨va,vc,hv⟩:=WI PU.o;subst hv))
   all_goals
    go_wp2
    go_ret
    have Z0:=Row.Z6 PU.o
    rw [Jy,←O_,QP] at Z0
    have FA:ZL w3 b G.2:=M4.o.below Wp
    have NB:m+(N-(m+1))=(P.take m++P.drop (m+1)).length:=by rw [HL3.o]
    rw [NB] at Z0
    have Ap:=FA.IB _ jr.o Z0 (BW.o _ Wp)
    rw [←NB] at Ap
    refine ⟨⟨_,rfl,?_⟩,?_,?_⟩
    ·rw [HES.o]
     exact (((Row.Z6 bU.o).below Wp).fr ((Fr.refl w3.heap.size (· = b) w3).setAt _ _) (Zw _) (FA.F8 Zd))
    ·rw [HES.o]
     dsimp only
     rw [HE.o]
     exact Ap
    ·exact (HFV.o.trans ((Fr.Z8 _ Wp).mono tE (fun _ _ h=>h))).setAt _ _
end Go.Proofs.Rm
