/- Part of a proof. -/
import Derived.Test.YtpdjhlcbcomdkaaGreatDoorF19
set_option linter.unusedVariables false
set_option linter.unusedSimpArgs false
set_option maxRecDepth 100000
set_option maxHeartbeats 16000000
open Go Go.Q Go.Qr
namespace Go.Proofs.Rm
open Go.RowKit Go.Proofs.Heap Go.Proofs.Mem
open Go.Proofs.N_ (may key Xe)
theorem Ca (b:Nat) (T:ZU) (o:Op) (sa ba:Option Addr) (sc bl bc:Nat) (w:World) (hR:ZT w b T) (VV:T.Small) (hT:Xe w) (Vz:o.name.length<9223372036854775807) (TI:∀ x∈T.ZK,x.name.length<9223372036854775807)
  (Z7:Yf w (.slice sa o.ZO.length sc) o.ZO.length (Zb o.ZO)) (hw:T.Yo o=0) (VU:uR T o) (hk:o.kind=4) :
  Calls Tryz.prog 72 (Qf (some ⟨b,0,none⟩) (Ji o sa o.ZO.length sc ba bl bc)) w (VA b T o w):=by
 have cw:=WL b T o sa ba sc bl bc (w.alloc (.cells (Ji o sa o.ZO.length sc ba bl bc) 32)) (hR.below (Z' _ _)) (Utf8Tabs_below hT (Z' _ _)) Vz TI (Z7.below (Z' _ _))
 have hb:=hR.lt
 have Rq:=Zh Z7
 have HR:=Zh hR
 have M9:=Zh VV
 have HF:Hid (T.W9 o=(([],T.O4 ⟨o.source,o.peer,o.ZO,false⟩),0)):=by show _=_;unfold ZU.W9 ZU.turns;rw [Z6 (by rw [hw];simp)];simp [hk]
 rw [hw] at cw
 have CW:=Zh cw
 have OB:=Zh VU
 obtain ⟨kd,p,n,la,nm,ss⟩:=o
 dsimp only at *
 subst hk
 have BA:=VV.Yv
 unfold small at BA
 have Nu:=VU.ssl rfl
 obtain ⟨pv,sv,uv,YJ,X_⟩:=hR.Wh
 obtain ⟨P,Vd,Wp,Ef⟩:=X_.Yv
 have hPl:P.length≤100000:=by rw [←Vd,UM] at BA;exact BA
 have Dy:Hid (∀ u∈P.flatMap ZJ,u.oneCell'=true):=QE fun x hx=>by obtain ⟨a,c,h,-,-⟩:=Ef x hx;exact ⟨a,_,c,h⟩
 obtain ⟨a,cap,rfl,PV,-,-,-⟩:=id Wp
 have JX:Hid (∀ w',Below w w w'→Row w' 108 (.slice a P.length cap) P.length (P.flatMap ZJ)∧(∀ x∈P,Row w' 66 x.2 x.1.ss.length (Zb x.1.ss))∧Yf w' (.slice sa ss.length sc) ss.length (Zb ss)):=fun w' h=>⟨Wp.below h,fun x hx=>(Ef x hx).below h,Z7.below h⟩
 have Dx:=Zh (Tx P)
 have I6:=Zh Vd
 have ME:Hid ((Zb ss).length=ss.length*1):=by show _=_;rw [Wx,Nat.mul_one]
 have HC:Hid (∀ w',Below w w w'→w'.cell? ⟨b,1,none⟩=some (.slice a P.length cap)∧w'.frozen? ⟨b,1,none⟩=false):=fun w' h=>⟨(h.cell (p:=⟨b,1,none⟩) hb).trans (cell_of YJ 1),(h.frozen (p:=⟨b,1,none⟩) hb).trans (hR.YS 1)⟩
 clear Wp Ef YJ X_ Vd BA
 clear hR VV hT Vz TI Z7 cw hw VU
 have I5:=Zh (Z5 w (.cells (Qa 4 p n la (str nm) sa ss.length sc ba bl bc) 32))
 have EY:=World.size_alloc w (.cells (Qa 4 p n la (str nm) sa ss.length sc ba bl bc) 32)
 have TL:Hid (Below w w (w.alloc (.cells (Qa 4 p n la (str nm) sa ss.length sc ba bl bc) 32))):=Z' _ _
 go_enter Tryz.func72,Tryz.ntmps72
 go_wp2_with fail
 (with_reducible refine CW.o.mono ?_)
 rintro e w1 ⟨rfl,Zj⟩
 have Wy:Hid (Below w w w1):=TL.o.trans (Zj.mono Zo)
 have SF:w.heap.size<w1.heap.size:=by have:=Zj.size;omega
 have WI:=fun (j:Nat)=>(Zj.cell (p:=⟨w,j,none⟩) UL).trans (cell_of I5.o j)
 have x0:w1.cell? ⟨w,0,none⟩=some (.int .i64 4):=WI 0
 have x1:w1.cell? ⟨w,1,none⟩=some (.int .i64 p):=WI 1
 have x2:w1.cell? ⟨w,2,none⟩=some (.int .i64 n):=WI 2
 have x3:w1.cell? ⟨w,3,none⟩=some (.int .i64 la):=WI 3
 have x4:w1.cell? ⟨w,4,none⟩=some (.string (str nm)):=WI 4
 have x5:w1.cell? ⟨w,5,none⟩=some (.slice sa ss.length sc):=WI 5
 have x6:w1.cell? ⟨w,6,none⟩=some (.slice ba bl bc):=WI 6
 clear Zj WI
 have ZC:Hid (∀ w',Below w1 w1 w'→w'.cell? ⟨b,1,none⟩=some (.slice a P.length cap)∧w'.frozen? ⟨b,1,none⟩=false):=fun w' h=>HC.o _ (Wy.o.trans (h.mono Zo))
 have Tf:Hid (∀ w',Below w1 w1 w'→Row w' 108 (.slice a P.length cap) P.length (P.flatMap ZJ)∧(∀ x∈P,Row w' 66 x.2 x.1.ss.length (Zb x.1.ss))∧Yf w' (.slice sa ss.length sc) ss.length (Zb ss)):=fun w' h=>JX.o _ (Wy.o.trans (h.mono Zo))
 have mW:Hid (∀ w',Below w1 w1 w'→ZT w' b T∧Fr w (· = b) w w'):=fun w' h=>⟨HR.o.below (Wy.o.trans (h.mono Zo)),Fr.Z9 _ (Wy.o.trans (h.mono Zo))⟩
 have J0:Hid (∀ w',Fr w1 (· = b) w1 w'→w'.cell? ⟨w,1,none⟩=some (.int .i64 p)∧w'.cell? ⟨w,2,none⟩=some (.int .i64 n)∧w'.cell? ⟨w,5,none⟩=some (.slice sa ss.length sc)∧Fr w1 (· = b) w1 w'):=fun w' h=>⟨(h.cell (p:=⟨w,1,none⟩) SF UL).trans x1,(h.cell (p:=⟨w,2,none⟩) SF UL).trans x2,(h.cell (p:=⟨w,5,none⟩) SF UL).trans x5,h⟩
 have Ri:Below w1 w1 w1:=YG _ _
 obtain ⟨k0,k1⟩:=ZC.o _ Ri
 have cf:b<w1.heap.size:=by omega
 have fG:=World.new_ne w1 ⟨b,1,none⟩ k0
 clear JX HC
 go_upto_region 10 with fail
 refine QN ?_
 refine wp_region_held_drew (S:=(fun w'=>w'.cell? ⟨w,1,none⟩=some (.int .i64 p)∧w'.cell? ⟨w,2,none⟩=some (.int .i64 n)∧w'.cell? ⟨w,5,none⟩=some (.slice sa ss.length sc)∧Fr w1 (· = b) w1 w')) Zg ?_ (fun _=>?_)
 ·exact Oa
 refine YA 0 (h:=YA 1 (h:=YA 2 (h:=YA 3 (h:=YA 6 (h:=YA 7 (h:=YA 8 (h:=YA 9 (h:=YA 10 (h:=YA 11 (h:=?_))))))))))
 refine wpAnyH_ready (rs:=[4]) Zg Zi ?_
 refine AllReadyH.cons (i:=4) rfl (fun K hK=>?_) ?_
 ·go_simp
  refine hK.out _ _ ?_ (fun _=>?_)
  ·exact Oa
  clear hK K
  try simp only [Z3.pt]
  refine wpAnyH_ready (rs:=[5]) Zg Zi ?_
  refine AllReadyH.cons (i:=5) rfl (fun K hK=>?_) ?_
  ·(first|(go_split_ands;refine Zw Zr (.const (.slice none 0 0)) (.tmp 46) 48 Zr w1.heap.size VY (.slice none 0 0) 0 [] Zr (Us _ _ _ _) (.slice a P.length cap) P.length (P.flatMap ZJ) Zr ?_ Dx.o Dy.o Zo Zo ?_ ?_;(exact (Tf.o _ WK).1);(exact Below.size WK);intro v1 w2 UK Pt;have Vb:=XW Pt.o;have YF:Below w1 w1 w2:=Heap.Below.call WK (ZB _) Vb;have r2:Below w2 w2 w2:=YG _ _;have rs2:Below ws ws w2:=Heap.Below.call WK (ZB _) Vb;obtain ⟨k2,k3⟩:=ZC.o _ YF)|(go_split_ands;refine Zw Zr (.const (.slice none 0 0)) (.tmp 46) 48 Zr w1.heap.size VY (.slice none 0 0) 0 [] Zr (Us _ _ _ _) (.slice a P.length cap) P.length (P.flatMap ZJ) Zr ?_ Dx.o Dy.o Zo Zo ?_ ?_;(exact (Tf.o _ WK).1);(exact Below.size WK);intro v1 w2 UK Pt;have Vb:=XW Pt.o;have YF:Below w1 w1 w2:=Heap.Below.call WK (ZB _) Vb;have r2:Below w2 w2 w2:=YG _ _;  obtain ⟨k2,k3⟩:=ZC.o _ YF)|(go_split_ands;refine RZ Zr (.const (.slice none 0 0)) (.tmp 53) 29 Zr w1.heap.size V4 (.slice none 0 0) 0 [] Zr (Us _ _ _ _) (.slice sa ss.length sc) ss.length (Zb ss) Zr ?_ ME.o (RR _) Zo Zo ?_ ?_;(exact (Tf.o _ WK).2.2);(exact Below.size WK);intro vs ws AR qd;have xG:=XW qd.o;have H':Below w1 w1 ws:=Heap.Below.call WK (ZB _) xG;have rs:Below ws ws ws:=YG _ _;have r2s:Below w2 w2 ws:=Heap.Below.call WK (ZB _) xG;obtain ⟨k2,k3⟩:=ZC.o _ H';have Nz:=Zh (Row.ZV AR.o);obtain ⟨Dm,Dn,hv⟩:=Yz AR.o;rw [OD] at hv Nz;rw [KF] at Nz;subst hv)|(go_split_ands;refine RZ Zr (.const (.slice none 0 0)) (.tmp 53) 29 Zr w1.heap.size V4 (.slice none 0 0) 0 [] Zr (Us _ _ _ _) (.slice sa ss.length sc) ss.length (Zb ss) Zr ?_ ME.o (RR _) Zo Zo ?_ ?_;(exact (Tf.o _ WK).2.2);(exact Below.size WK);intro vs ws AR qd;have xG:=XW qd.o;have H':Below w1 w1 ws:=Heap.Below.call WK (ZB _) xG;have rs:Below ws ws ws:=YG _ _;  obtain ⟨k2,k3⟩:=ZC.o _ H';have Nz:=Zh (Row.ZV AR.o);obtain ⟨Dm,Dn,hv⟩:=Yz AR.o;rw [OD] at hv Nz;rw [KF] at Nz;subst hv)|(go_split_ands;refine Zw Zr (.tmp 47) (.tmp 56) 48 Zr w1.heap.size VY v1 (0+P.length) ([]++P.flatMap ZJ) Zr ?_ _ 1 (Qj n p Dm ss.length Dn false) Zr ?_ Zr (QD ⟨n,p,ss,false⟩ Dm ss.length Dn) Zo Zo ?_ ?_;(exact ZF UK.o WK);(repeat (first|((with_reducible refine Wa _ _ 1 (Qj n p Dm ss.length Dn false) Zd _ ?_);rfl)|with_reducible refine Row.drew ?_|with_reducible refine Row.below ?_ Vb));(exact Below.size WK);intro v2 w3 QJ Li;have WX:Below w1 w1 w3:=Below.grown WK Li.o (Below.size WK) (Yw UK.o);have jD:=Row.grown (Nz.o.below WK) (ZF UK.o WK) Li.o Zd;obtain ⟨k6,k7⟩:=ZC.o _ WX;obtain ⟨va,vc,hv⟩:=Yz QJ.o;subst hv))
   refine hK.out _ _ ?_ (fun _=>?_)
   ·exact Oa
   clear hK K
   try simp only [Z3.pt]
   refine wpAnyH_ready (rs:=[12]) Zg Zi ?_
   refine AllReadyH.cons (i:=12) rfl (fun K hK=>?_) ?_
   ·(first|(go_split_ands;refine Zw Zr (.const (.slice none 0 0)) (.tmp 46) 48 Zr w1.heap.size VY (.slice none 0 0) 0 [] Zr (Us _ _ _ _) (.slice a P.length cap) P.length (P.flatMap ZJ) Zr ?_ Dx.o Dy.o Zo Zo ?_ ?_;(exact (Tf.o _ WK).1);(exact Below.size WK);intro v1 w2 UK Pt;have Vb:=XW Pt.o;have YF:Below w1 w1 w2:=Heap.Below.call WK (ZB _) Vb;have r2:Below w2 w2 w2:=YG _ _;have rs2:Below ws ws w2:=Heap.Below.call WK (ZB _) Vb;obtain ⟨k2,k3⟩:=ZC.o _ YF)|(go_split_ands;refine Zw Zr (.const (.slice none 0 0)) (.tmp 46) 48 Zr w1.heap.size VY (.slice none 0 0) 0 [] Zr (Us _ _ _ _) (.slice a P.length cap) P.length (P.flatMap ZJ) Zr ?_ Dx.o Dy.o Zo Zo ?_ ?_;(exact (Tf.o _ WK).1);(exact Below.size WK);intro v1 w2 UK Pt;have Vb:=XW Pt.o;have YF:Below w1 w1 w2:=Heap.Below.call WK (ZB _) Vb;have r2:Below w2 w2 w2:=YG _ _;  obtain ⟨k2,k3⟩:=ZC.o _ YF)|(go_split_ands;refine RZ Zr (.const (.slice none 0 0)) (.tmp 53) 29 Zr w1.heap.size V4 (.slice none 0 0) 0 [] Zr (Us _ _ _ _) (.slice sa ss.length sc) ss.length (Zb ss) Zr ?_ ME.o (RR _) Zo Zo ?_ ?_;(exact (Tf.o _ WK).2.2);(exact Below.size WK);intro vs ws AR qd;have xG:=XW qd.o;have H':Below w1 w1 ws:=Heap.Below.call WK (ZB _) xG;have rs:Below ws ws ws:=YG _ _;have r2s:Below w2 w2 ws:=Heap.Below.call WK (ZB _) xG;obtain ⟨k2,k3⟩:=ZC.o _ H';have Nz:=Zh (Row.ZV AR.o);obtain ⟨Dm,Dn,hv⟩:=Yz AR.o;rw [OD] at hv Nz;rw [KF] at Nz;subst hv)|(go_split_ands;refine RZ Zr (.const (.slice none 0 0)) (.tmp 53) 29 Zr w1.heap.size V4 (.slice none 0 0) 0 [] Zr (Us _ _ _ _) (.slice sa ss.length sc) ss.length (Zb ss) Zr ?_ ME.o (RR _) Zo Zo ?_ ?_;(exact (Tf.o _ WK).2.2);(exact Below.size WK);intro vs ws AR qd;have xG:=XW qd.o;have H':Below w1 w1 ws:=Heap.Below.call WK (ZB _) xG;have rs:Below ws ws ws:=YG _ _;  obtain ⟨k2,k3⟩:=ZC.o _ H';have Nz:=Zh (Row.ZV AR.o);obtain ⟨Dm,Dn,hv⟩:=Yz AR.o;rw [OD] at hv Nz;rw [KF] at Nz;subst hv)|(go_split_ands;refine Zw Zr (.tmp 47) (.tmp 56) 48 Zr w1.heap.size VY v1 (0+P.length) ([]++P.flatMap ZJ) Zr ?_ _ 1 (Qj n p Dm ss.length Dn false) Zr ?_ Zr (QD ⟨n,p,ss,false⟩ Dm ss.length Dn) Zo Zo ?_ ?_;(exact ZF UK.o WK);(repeat (first|((with_reducible refine Wa _ _ 1 (Qj n p Dm ss.length Dn false) Zd _ ?_);rfl)|with_reducible refine Row.drew ?_|with_reducible refine Row.below ?_ Vb));(exact Below.size WK);intro v2 w3 QJ Li;have WX:Below w1 w1 w3:=Below.grown WK Li.o (Below.size WK) (Yw UK.o);have jD:=Row.grown (Nz.o.below WK) (ZF UK.o WK) Li.o Zd;obtain ⟨k6,k7⟩:=ZC.o _ WX;obtain ⟨va,vc,hv⟩:=Yz QJ.o;subst hv))
    refine hK.out _ _ ?_ (fun _=>?_)
    ·exact Oa
    clear hK K
    try simp only [Z3.pt]
    refine YA 13 (h:=?_)
    refine wpAnyH_ready (rs:=[14]) Zg Zi ?_
    refine AllReadyH.cons (i:=14) rfl (fun K hK=>?_) ?_
    ·go_simp
     refine hK.out _ _ ?_ (fun _=>?_)
     ·exact Oa
     clear hK K
     try simp only [Z3.pt]
     refine wpAnyH_ready (rs:=[15]) Zg Zi ?_
     refine AllReadyH.cons (i:=15) rfl (fun K hK=>?_) ?_
     ·(first|(go_split_ands;refine Zw Zr (.const (.slice none 0 0)) (.tmp 46) 48 Zr w1.heap.size VY (.slice none 0 0) 0 [] Zr (Us _ _ _ _) (.slice a P.length cap) P.length (P.flatMap ZJ) Zr ?_ Dx.o Dy.o Zo Zo ?_ ?_;(exact (Tf.o _ WK).1);(exact Below.size WK);intro v1 w2 UK Pt;have Vb:=XW Pt.o;have YF:Below w1 w1 w2:=Heap.Below.call WK (ZB _) Vb;have r2:Below w2 w2 w2:=YG _ _;have rs2:Below ws ws w2:=Heap.Below.call WK (ZB _) Vb;obtain ⟨k2,k3⟩:=ZC.o _ YF)|(go_split_ands;refine Zw Zr (.const (.slice none 0 0)) (.tmp 46) 48 Zr w1.heap.size VY (.slice none 0 0) 0 [] Zr (Us _ _ _ _) (.slice a P.length cap) P.length (P.flatMap ZJ) Zr ?_ Dx.o Dy.o Zo Zo ?_ ?_;(exact (Tf.o _ WK).1);(exact Below.size WK);intro v1 w2 UK Pt;have Vb:=XW Pt.o;have YF:Below w1 w1 w2:=Heap.Below.call WK (ZB _) Vb;have r2:Below w2 w2 w2:=YG _ _;  obtain ⟨k2,k3⟩:=ZC.o _ YF)|(go_split_ands;refine RZ Zr (.const (.slice none 0 0)) (.tmp 53) 29 Zr w1.heap.size V4 (.slice none 0 0) 0 [] Zr (Us _ _ _ _) (.slice sa ss.length sc) ss.length (Zb ss) Zr ?_ ME.o (RR _) Zo Zo ?_ ?_;(exact (Tf.o _ WK).2.2);(exact Below.size WK);intro vs ws AR qd;have xG:=XW qd.o;have H':Below w1 w1 ws:=Heap.Below.call WK (ZB _) xG;have rs:Below ws ws ws:=YG _ _;have r2s:Below w2 w2 ws:=Heap.Below.call WK (ZB _) xG;obtain ⟨k2,k3⟩:=ZC.o _ H';have Nz:=Zh (Row.ZV AR.o);obtain ⟨Dm,Dn,hv⟩:=Yz AR.o;rw [OD] at hv Nz;rw [KF] at Nz;subst hv)|(go_split_ands;refine RZ Zr (.const (.slice none 0 0)) (.tmp 53) 29 Zr w1.heap.size V4 (.slice none 0 0) 0 [] Zr (Us _ _ _ _) (.slice sa ss.length sc) ss.length (Zb ss) Zr ?_ ME.o (RR _) Zo Zo ?_ ?_;(exact (Tf.o _ WK).2.2);(exact Below.size WK);intro vs ws AR qd;have xG:=XW qd.o;have H':Below w1 w1 ws:=Heap.Below.call WK (ZB _) xG;have rs:Below ws ws ws:=YG _ _;  obtain ⟨k2,k3⟩:=ZC.o _ H';have Nz:=Zh (Row.ZV AR.o);obtain ⟨Dm,Dn,hv⟩:=Yz AR.o;rw [OD] at hv Nz;rw [KF] at Nz;subst hv)|(go_split_ands;refine Zw Zr (.tmp 47) (.tmp 56) 48 Zr w1.heap.size VY v1 (0+P.length) ([]++P.flatMap ZJ) Zr ?_ _ 1 (Qj n p Dm ss.length Dn false) Zr ?_ Zr (QD ⟨n,p,ss,false⟩ Dm ss.length Dn) Zo Zo ?_ ?_;(exact ZF UK.o WK);(repeat (first|((with_reducible refine Wa _ _ 1 (Qj n p Dm ss.length Dn false) Zd _ ?_);rfl)|with_reducible refine Row.drew ?_|with_reducible refine Row.below ?_ Vb));(exact Below.size WK);intro v2 w3 QJ Li;have WX:Below w1 w1 w3:=Below.grown WK Li.o (Below.size WK) (Yw UK.o);have jD:=Row.grown (Nz.o.below WK) (ZF UK.o WK) Li.o Zd;obtain ⟨k6,k7⟩:=ZC.o _ WX;obtain ⟨va,vc,hv⟩:=Yz QJ.o;subst hv))
      refine hK.out _ _ ?_ (fun _=>?_)
      ·exact Oa
      clear hK K
      try simp only [Z3.pt]
      refine YA 16 (h:=YA 17 (h:=?_))
      refine wpAnyH_ready (rs:=[18]) Zg Zi ?_
      refine AllReadyH.cons (i:=18) rfl (fun K hK=>?_) ?_
      ·go_simp
       refine hK.out _ _ ?_ (fun _=>?_)
       ·exact Oa
       clear hK K
       try simp only [Z3.pt]
       refine wpAnyH_done Zg ?_ _
       refine Py ?_
       go_wp2
       go_ret2
       obtain ⟨GJ,lS⟩:=mW.o _ WX
       have Z7:=Row.ZV QJ.o
       rw [KF,OD] at Z7
       have Bx:=GJ.JD (P++[(⟨n,p,ss,false⟩,.slice Dm ss.length Dn)]) (l:=T.Yv++[⟨n,p,ss,false⟩]) (by rw [ND,I6.o];rfl) (by rw [show (P++[((⟨n,p,ss,false⟩:XK),Value.slice Dm ss.length Dn)]).flatMap ZJ=P.flatMap ZJ++[.int .i64 n,.int .i64 p,.slice Dm ss.length Dn,.bool false] by rw [QL];rfl,show (P++[((⟨n,p,ss,false⟩:XK),Value.slice Dm ss.length Dn)]).length=P.length+1 by simp];exact Z7) (fun x hx=>by
        rcases De.1 hx with hx|hx
        ·exact (Tf.o _ WX).2.1 x hx
        ·rw [I9] at hx;subst hx;exact jD)
       exact VT HF (Row.nil _ _) Bx (lS.setAt _ _)
      exact AllReadyH.nil
     exact AllReadyH.nil
    exact AllReadyH.nil
   exact AllReadyH.nil
  exact AllReadyH.nil
 exact AllReadyH.nil
theorem GW (b:Nat) (T:ZU) (o:Op) (sa ba:Option Addr) (sc bl bc:Nat) (w:World) (hR:ZT w b T) (VV:T.Small) (hT:Xe w) (Vz:o.name.length<9223372036854775807) (TI:∀ x∈T.ZK,x.name.length<9223372036854775807)
  (Z7:Yf w (.slice sa o.ZO.length sc) o.ZO.length (Zb o.ZO)) (hw:T.Yo o=0) (VU:uR T o) (hk:o.kind=6) :
  Calls Tryz.prog 72 (Qf (some ⟨b,0,none⟩) (Ji o sa o.ZO.length sc ba bl bc)) w (VA b T o w):=by
 have cw:=WL b T o sa ba sc bl bc (w.alloc (.cells (Ji o sa o.ZO.length sc ba bl bc) 32)) (hR.below (Z' _ _)) (Utf8Tabs_below hT (Z' _ _)) Vz TI (Z7.below (Z' _ _))
 have hb:=hR.lt
 have Rq:=Zh Z7
 have HR:=Zh hR
 have M9:=Zh VV
 have HF:Hid (T.W9 o=(T.subscribe o,0)):=by show _=_;unfold ZU.W9 ZU.turns;rw [Z6 (by rw [hw];simp)];simp [hk]
 rw [hw] at cw
 have CW:=Zh cw
 have OB:=Zh VU
 obtain ⟨kd,p,n,la,nm,ss⟩:=o
 dsimp only at *
 subst hk
 have BA:=VV.Z8
 unfold small at BA
 obtain ⟨pv,sv,uv,YJ,X_⟩:=hR.Wh
 have Wp:=X_.Z8
 obtain ⟨a,cap,rfl,PV,-,-,-⟩:=id Wp
 have JX:Hid (∀ w',Below w w w'→Row w' 105 (.slice a T.Z8.length cap) T.Z8.length (T.Z8.flatMap ZL)):=fun w' h=>Wp.below h
 have Dx:=Zh (Uf T.Z8)
 have HC:Hid (∀ w',Below w w w'→w'.cell? ⟨b,2,none⟩=some (.slice a T.Z8.length cap)∧w'.frozen? ⟨b,2,none⟩=false):=fun w' h=>⟨(h.cell (p:=⟨b,2,none⟩) hb).trans (cell_of YJ 2),(h.frozen (p:=⟨b,2,none⟩) hb).trans (hR.YS 2)⟩
 have oN:0≤(T.Wz ⟨p,n,la,false⟩).Zq n:=VU.src Zi
 have Gj:=Zh (fun (w1:World) (h:ZT w1 b (T.Wz ⟨p,n,la,false⟩))=>Jq b (T.Wz ⟨p,n,la,false⟩) ⟨p,n,la,false⟩ w1 h oN (VU.Zu rfl))
 have HSU:Hid (T.subscribe ⟨6,p,n,la,nm,ss⟩=(⟨1,p,n,la,0⟩ :: (if ((T.Wz ⟨p,n,la,false⟩).Xb n).ZE then [⟨6,p,n,0,0⟩] else [(T.Wz ⟨p,n,la,false⟩).ask ⟨p,n,la,false⟩]),T.Wz ⟨p,n,la,false⟩)):=rfl
 obtain ⟨m,hm,PU,-,-⟩:=Yh oN
 have PU:(T.Wz ⟨p,n,la,false⟩).Zq n=m:=PU
 have CS:Hid (∀ w1,ZT w1 b (T.Wz ⟨p,n,la,false⟩)→Calls Tryz.prog 49 (Ql (some ⟨b,0,none⟩) n) w1 fun e w'=>e = .returned (.int .i64 m)∧Below w1 w1 w'):=fun w1 h=>by
  have h1:=W8 b _ n w1 h
  rw [PU] at h1
  exact h1
 have mQ:Hid (((T.Wz ⟨p,n,la,false⟩).Xb n).ZE=(T.Wz ⟨p,n,la,false⟩).Yv[m].ZE):=by
  show _=_
  unfold ZU.Xb
  rw [PU,Xf,Sq,VQ hm];rfl
 clear Wp YJ X_ oN PU
 clear hR VV hT Vz TI Z7 cw hw VU
 have I5:=Zh (Z5 w (.cells (Qa 6 p n la (str nm) sa ss.length sc ba bl bc) 32))
 have EY:=World.size_alloc w (.cells (Qa 6 p n la (str nm) sa ss.length sc ba bl bc) 32)
 have TL:Hid (Below w w (w.alloc (.cells (Qa 6 p n la (str nm) sa ss.length sc ba bl bc) 32))):=Z' _ _
 go_enter Tryz.func72,Tryz.ntmps72
 go_wp2_with fail
 (with_reducible refine CW.o.mono ?_)
 rintro e w1 ⟨rfl,Zj⟩
 have Wy:Hid (Below w w w1):=TL.o.trans (Zj.mono Zo)
 have SF:w.heap.size<w1.heap.size:=by have:=Zj.size;omega
 have WI:=fun (j:Nat)=>(Zj.cell (p:=⟨w,j,none⟩) UL).trans (cell_of I5.o j)
 have x0:w1.cell? ⟨w,0,none⟩=some (.int .i64 6):=WI 0
 have x1:w1.cell? ⟨w,1,none⟩=some (.int .i64 p):=WI 1
 have x2:w1.cell? ⟨w,2,none⟩=some (.int .i64 n):=WI 2
 have x3:w1.cell? ⟨w,3,none⟩=some (.int .i64 la):=WI 3
 have x4:w1.cell? ⟨w,4,none⟩=some (.string (str nm)):=WI 4
 have x5:w1.cell? ⟨w,5,none⟩=some (.slice sa ss.length sc):=WI 5
 have x6:w1.cell? ⟨w,6,none⟩=some (.slice ba bl bc):=WI 6
 clear Zj WI
 have HVW:=size_alloc w1 (.cells (Qg p n la false) 105)
 have OC:=Z5 w1 (.cells (Qg p n la false) 105)
 have HV1:=Z' w1 (.cells (Qg p n la false) 105)
 have z1:=(HV1.cell (p:=⟨w,1,none⟩) SF).trans x1
 have z2:=(HV1.cell (p:=⟨w,2,none⟩) SF).trans x2
 have z3:=(HV1.cell (p:=⟨w,3,none⟩) SF).trans x3
 go_upto_region 15 with fail
 clear x0 x1 x2 x3 x4 x5 x6
 generalize w1.alloc (.cells (Qg p n la false) 105)=V at *
 have ET:Hid (Below w w V):=Wy.o.trans (HV1.mono Zo)
 have hVs:w.heap.size<V.heap.size:=by omega
 have oh:w1.heap.size<V.heap.size:=by omega
 have hb1n:¬b=w1.heap.size:=by have:=Wy.o.size;omega
 have hb1n':¬w1.heap.size=b:=by omega
 have ZC:Hid (∀ w',Below V V w'→w'.cell? ⟨b,2,none⟩=some (.slice a T.Z8.length cap)∧w'.frozen? ⟨b,2,none⟩=false):=fun w' h=>HC.o _ (ET.o.trans (h.mono Zo))
 have Tf:Hid (∀ w',Below V V w'→Row w' 105 (.slice a T.Z8.length cap) T.Z8.length (T.Z8.flatMap ZL)):=fun w' h=>JX.o _ (ET.o.trans (h.mono Zo))
 have mW:Hid (∀ w',Below V V w'→ZT w' b T∧Fr w (· = b) w w'):=fun w' h=>⟨HR.o.below (ET.o.trans (h.mono Zo)),Fr.Z9 _ (ET.o.trans (h.mono Zo))⟩
 have J0:Hid (∀ w',Fr V (· = b) V w'→w'.cell? ⟨w1,0,none⟩=some (.int .i64 p)∧w'.cell? ⟨w1,1,none⟩=some (.int .i64 n)∧w'.cell? ⟨w1,2,none⟩=some (.int .i64 la)∧w'.cell? ⟨w1,3,none⟩=some (.bool false)∧Fr V (· = b) V w'):=fun w' h=>⟨(h.cell (p:=⟨w1,0,none⟩) oh UL).trans (cell_of OC 0),(h.cell (p:=⟨w1,1,none⟩) oh UL).trans (cell_of OC 1),(h.cell (p:=⟨w1,2,none⟩) oh UL).trans (cell_of OC 2),(h.cell (p:=⟨w1,3,none⟩) oh UL).trans (cell_of OC 3),h⟩
 have kD:Hid (∀ w',Fr V (· = b) V w'→w'.cell? ⟨w,1,none⟩=some (.int .i64 p)∧w'.cell? ⟨w,2,none⟩=some (.int .i64 n)∧w'.cell? ⟨w,3,none⟩=some (.int .i64 la)):=fun w' h=>⟨(h.cell (p:=⟨w,1,none⟩) hVs UL).trans z1,(h.cell (p:=⟨w,2,none⟩) hVs UL).trans z2,(h.cell (p:=⟨w,3,none⟩) hVs UL).trans z3⟩
 have Ri:Below V V V:=YG _ _
 obtain ⟨k0,k1⟩:=ZC.o _ Ri
 have cf:b<V.heap.size:=by omega
 have fG:=World.new_ne V ⟨b,2,none⟩ k0
 clear JX HC HV1 z1 z2 z3 OC HVW
 go_cut [] (fun wx=>ZT wx b (T.Wz ⟨p,n,la,false⟩)∧Fr w (· = b) w wx∧Fr V (· = b) V wx)
 case first=>
  refine QN ?_
  refine wp_region_held_drew (S:=(fun w'=>w'.cell? ⟨w1,0,none⟩=some (.int .i64 p)∧w'.cell? ⟨w1,1,none⟩=some (.int .i64 n)∧w'.cell? ⟨w1,2,none⟩=some (.int .i64 la)∧w'.cell? ⟨w1,3,none⟩=some (.bool false)∧Fr V (· = b) V w')) Zg ?_ (fun _=>?_)
  ·exact Oa
  refine YA 0 (h:=YA 1 (h:=YA 2 (h:=YA 3 (h:=YA 6 (h:=?_)))))
  refine wpAnyH_ready (rs:=[4,7]) Zg Zi ?_
  refine AllReadyH.cons (i:=4) rfl (fun K hK=>?_) ?_
  ·go_simp
   refine hK.out _ _ ?_ (fun _=>?_)
   ·exact Oa
   clear hK K
   try simp only [Z3.pt]
   refine wpAnyH_ready (rs:=[5,7]) Zg Zi ?_
   refine AllReadyH.cons (i:=5) rfl (fun K hK=>?_) ?_
   ·(first|(go_split_ands;refine Zw Zr (.const (.slice none 0 0)) (.tmp 79) 49 Zr V.heap.size VZ (.slice none 0 0) 0 [] Zr (Us _ _ _ _) (.slice a T.Z8.length cap) T.Z8.length (T.Z8.flatMap ZL) Zr ?_ Dx.o (Ug _) Zo Zo ?_ ?_;(exact Tf.o _ WK);(exact Below.size WK);intro v1 w2 UK Pt;have Vb:=XW Pt.o;have YF:Below V V w2:=Heap.Below.call WK (ZB _) Vb;have r2:Below w2 w2 w2:=YG _ _;obtain ⟨k2,k3⟩:=ZC.o _ YF)|(go_split_ands;refine Zw Zr (.tmp 80) (.tmp 82) 49 Zr V.heap.size VZ v1 (0+T.Z8.length) ([]++T.Z8.flatMap ZL) Zr ?_ _ 1 (Qg p n la false) Zr ?_ Zr (S7 ⟨p,n,la,false⟩) Zo Zo ?_ ?_;(exact ZF UK.o WK);(repeat (first|((with_reducible refine Wa _ _ 1 (Qg p n la false) Zd _ ?_);rfl)|with_reducible refine Row.drew ?_|with_reducible refine Row.below ?_ Vb));(exact Below.size WK);intro v2 w3 QJ Li;have WX:Below V V w3:=Below.grown WK Li.o (Below.size WK) (Yw UK.o);obtain ⟨k6,k7⟩:=ZC.o _ WX;obtain ⟨va,vc,hv⟩:=Yz QJ.o;subst hv))
    refine hK.out _ _ ?_ (fun _=>?_)
    ·exact Oa
    clear hK K
    try simp only [Z3.pt]
    refine wpAnyH_ready (rs:=[7]) Zg Zi ?_
    refine AllReadyH.cons (i:=7) rfl (fun K hK=>?_) ?_
    ·go_simp
     exact Yx7
    exact AllReadyH.nil
   refine AllReadyH.cons (i:=7) rfl (fun K hK=>?_) ?_
   ·exact aQ
   exact AllReadyH.nil
  refine AllReadyH.cons (i:=7) rfl (fun K hK=>?_) ?_
  ·go_simp
   refine hK.out _ _ ?_ (fun _=>?_)
   ·exact Oa
   clear hK K
   try simp only [Z3.pt]
   refine wpAnyH_ready (rs:=[4]) Zg Zi ?_
   refine AllReadyH.cons (i:=4) rfl (fun K hK=>?_) ?_
   ·exact aQ
   exact AllReadyH.nil
  exact AllReadyH.nil
 case rest=>
  obtain ⟨VE,Xm,hfv⟩:=hcut
  obtain ⟨W5,rfl⟩:∃ W5:World,W5=wc:=⟨_,rfl⟩
  obtain ⟨y0,y1,y2,y3,-⟩:=J0.o _ hfv
  obtain ⟨x1,x2,x3⟩:=kD.o _ hfv
  have fx:=hfv.size
  have kC:=Zh VE
  have gf:=Zh Xm
  clear Ri k0 k1 fG VE Xm hfv
  have Vb:=Z' W5 (.cells (Qi 1 p n la 0) 158)
  have ht:=Z5 W5 (.cells (Qi 1 p n la 0) 158)
  have rP:=kC.o.alloc (.cells (Qi 1 p n la 0) 158)
  have rL:=gf.o.alloc Zo (.cells (Qi 1 p n la 0) 158)
  have oQ:=World.size_alloc W5 (.cells (Qi 1 p n la 0) 158)
  have mz:=(Vb.cell (p:=⟨w1,0,none⟩) UL).trans y0
  have y1':=(Vb.cell (p:=⟨w1,1,none⟩) UL).trans y1
  have mA:=(Vb.cell (p:=⟨w1,2,none⟩) UL).trans y2
  have mB:=(Vb.cell (p:=⟨w1,3,none⟩) UL).trans y3
  have yp':=(Vb.cell (p:=⟨w,1,none⟩) UL).trans x1
  have fL:=(Vb.cell (p:=⟨w,2,none⟩) UL).trans x2
  go_upto_region 17 with fail
  generalize W5.alloc (.cells (Qi 1 p n la 0) 158)=W6 at *
  have AU:=Zh rP
  have wW:=Zh rL
  obtain ⟨pv6,sv6,uv6,Og,Kh⟩:=rP.Wh
  obtain ⟨P,Vd,Wp,Ef⟩:=Kh.Yv
  have r8:m<P.length:=by rw [←Vd,UM] at hm;exact hm
  have lH:=Wp.len
  have s1:=cell_of Og 1
  obtain ⟨pa,pc,rfl,-,-⟩:=id Wp
  obtain ⟨gs,RD,e4,SK⟩:=U3 Wp Zo
  subst e4
  obtain ⟨-,-,-,s4⟩:=SK m P[m] (VQ r8)
  have lI:P[m].1.ZE=(T.Wz ⟨p,n,la,false⟩).Yv[m].ZE:=by
   have:(P.map Prod.fst)[m]?=(T.Wz ⟨p,n,la,false⟩).Yv[m]?:=by rw [Vd]
   rw [List.getElem?_map,VQ r8,VQ hm] at this
   simp at this;rw [this]
  rw [lI] at s4
  have jk:gs<W6.heap.size:=by
   exact gP
  have fo:(m:Int)<(P.length:Int):=Gs.2 r8
  have vE:(0:Int)≤(m:Int):=yF m
  have Fl:b<W6.heap.size:=by omega
  have xK:w1.heap.size<W6.heap.size:=by omega
  have Fj:W5.heap.size<W6.heap.size:=by omega
  have jR:w.heap.size<W6.heap.size:=by omega
  have Ih:w.heap.size≤W6.heap.size:=by omega
  clear Og Kh Vd Wp Ef SK lI rP rL oQ
  generalize P.length=NP at *
  generalize (T.Wz ⟨p,n,la,false⟩).Yv[m].ZE=mu at *
  have VH:Hid (∀ w',Below W6 W6 w'→(w'.cell? ⟨w1,0,none⟩=some (.int .i64 p)∧w'.cell? ⟨w1,1,none⟩=some (.int .i64 n)∧w'.cell? ⟨w1,2,none⟩=some (.int .i64 la)∧w'.cell? ⟨w1,3,none⟩=some (.bool false))∧(w'.cell? ⟨W5,0,none⟩=some (.int .i64 1)∧w'.cell? ⟨W5,1,none⟩=some (.int .i64 p)∧w'.cell? ⟨W5,2,none⟩=some (.int .i64 n)∧w'.cell? ⟨W5,3,none⟩=some (.int .i64 la)∧w'.cell? ⟨W5,4,none⟩=some (.int .u32 0))∧w'.cell? ⟨w,1,none⟩=some (.int .i64 p)∧w'.cell? ⟨w,2,none⟩=some (.int .i64 n)∧w'.cell? ⟨b,1,none⟩=some (.slice (some ⟨gs,RD,none⟩) NP pc)∧w'.cell? ⟨gs,RD+m*4+3,none⟩=some (.bool mu)∧Below W6 W6 w'):=fun w' h=>
   ⟨⟨(h.cell (p:=⟨w1,0,none⟩) xK).trans mz,(h.cell (p:=⟨w1,1,none⟩) xK).trans y1',(h.cell (p:=⟨w1,2,none⟩) xK).trans mA,(h.cell (p:=⟨w1,3,none⟩) xK).trans mB⟩,⟨(h.cell (p:=⟨W5,0,none⟩) Fj).trans (cell_of ht 0),(h.cell (p:=⟨W5,1,none⟩) Fj).trans (cell_of ht 1),(h.cell (p:=⟨W5,2,none⟩) Fj).trans (cell_of ht 2),(h.cell (p:=⟨W5,3,none⟩) Fj).trans (cell_of ht 3),(h.cell (p:=⟨W5,4,none⟩) Fj).trans (cell_of ht 4)⟩,(h.cell (p:=⟨w,1,none⟩) jR).trans yp',(h.cell (p:=⟨w,2,none⟩) jR).trans fL,(h.cell (p:=⟨b,1,none⟩) Fl).trans s1,(h.cell (p:=⟨gs,RD+m*4+3,none⟩) jk).trans s4,h⟩
  clear ht y0 y1 y2 y3 x1 x2 x3 mz y1' mA mB fL yp' s1 s4 Vb kC gf ZC J0 kD Tf mW HR M9 Wy ET Dx
  generalize T.Wz ⟨p,n,la,false⟩=T1 at *
  generalize T1.ask ⟨p,n,la,false⟩=TA at *
  have Ri:Below W6 W6 W6:=YG _ _
  go_cut [103] (fun s103 wx=>s103 = .bool mu∧Below W6 W6 wx)
  case first=>
   go_region_held3 (fun w'=>(w'.cell? ⟨w1,0,none⟩=some (.int .i64 p)∧w'.cell? ⟨w1,1,none⟩=some (.int .i64 n)∧w'.cell? ⟨w1,2,none⟩=some (.int .i64 la)∧w'.cell? ⟨w1,3,none⟩=some (.bool false))∧(w'.cell? ⟨W5,0,none⟩=some (.int .i64 1)∧w'.cell? ⟨W5,1,none⟩=some (.int .i64 p)∧w'.cell? ⟨W5,2,none⟩=some (.int .i64 n)∧w'.cell? ⟨W5,3,none⟩=some (.int .i64 la)∧w'.cell? ⟨W5,4,none⟩=some (.int .u32 0))∧w'.cell? ⟨w,1,none⟩=some (.int .i64 p)∧w'.cell? ⟨w,2,none⟩=some (.int .i64 n)∧w'.cell? ⟨b,1,none⟩=some (.slice (some ⟨gs,RD,none⟩) NP pc)∧w'.cell? ⟨gs,RD+m*4+3,none⟩=some (.bool mu)∧Below W6 W6 w') (first|(exact VH.o _ Xo)|(exact VH.o _ (Below.drew Xo))|go_keep) (first|(go_at_call 49;go_split_ands;(with_reducible refine Calls.mono (CS.o _ (AU.o.below Xo)) ?_);rintro e V2 ⟨rfl,OE⟩;have Oe:=Heap.Below.call Xo (ZB _) OE)|fail)
   all_goals (go_wp2_with fail;go_meet;exact ⟨rfl,by first|with_reducible assumption|exact Below.drew Xo⟩)
  case rest=>
   clear Ri
   obtain ⟨rfl,OP⟩:=hcut
   obtain ⟨W7,rfl⟩:∃ W7:World,W7=wc:=⟨_,rfl⟩
   cases mu
   ·have uf:Hid (T.subscribe ⟨6,p,n,la,nm,ss⟩=([⟨1,p,n,la,0⟩,TA],T1)):=by show _=_;rw [HSU.o,mQ.o];rfl
    go_upto_region 19 with fail
    go_region_held3 (fun w'=>(w'.cell? ⟨w1,0,none⟩=some (.int .i64 p)∧w'.cell? ⟨w1,1,none⟩=some (.int .i64 n)∧w'.cell? ⟨w1,2,none⟩=some (.int .i64 la)∧w'.cell? ⟨w1,3,none⟩=some (.bool false))∧(w'.cell? ⟨W5,0,none⟩=some (.int .i64 1)∧w'.cell? ⟨W5,1,none⟩=some (.int .i64 p)∧w'.cell? ⟨W5,2,none⟩=some (.int .i64 n)∧w'.cell? ⟨W5,3,none⟩=some (.int .i64 la)∧w'.cell? ⟨W5,4,none⟩=some (.int .u32 0))∧w'.cell? ⟨w,1,none⟩=some (.int .i64 p)∧w'.cell? ⟨w,2,none⟩=some (.int .i64 n)∧w'.cell? ⟨b,1,none⟩=some (.slice (some ⟨gs,RD,none⟩) NP pc)∧w'.cell? ⟨gs,RD+m*4+3,none⟩=some (.bool false)∧Below W6 W6 w') (first|(exact VH.o _ Xo)|(exact VH.o _ (Below.drew Xo))|(exact VH.o _ (Heap.Below.alloc' Xo (ZB _) _))|(exact VH.o _ (Heap.Below.alloc' (Below.drew Xo) (ZB _) _))|go_keep) (first|(go_at_call 99;go_split_ands;(with_reducible refine Calls.mono (Gj.o _ (AU.o.below Xo)) ?_);rintro e V3 ⟨rfl,OE⟩;have GA:=Heap.Below.call Xo (ZB _) OE;unfold WG)|fail)
    go_wp2
    go_ret2
    rw [uf.o] at HF
    exact VT HF (YL _ _ 2 _ ([⟨1,p,n,la,0⟩,TA].flatMap Z_) Zd rfl) (AU.o.below (GA.alloc GA.size _)) (wW.o.trans ((Fr.Z9 _ (GA.alloc GA.size _)).mono Ih (fun _ _ h=>h)))
   ·have uf:Hid (T.subscribe ⟨6,p,n,la,nm,ss⟩=([⟨1,p,n,la,0⟩,⟨6,p,n,0,0⟩],T1)):=by show _=_;rw [HSU.o,mQ.o];rfl
    obtain ⟨-,⟨t0,t1,t2,t3,t4⟩,q1,q2,-⟩:=VH.o _ OP
    have dN:W5.heap.size<W7.heap.size:=Px Fj OP.size
    have hzw:w.heap.size<W7.heap.size:=Px jR OP.size
    go_wp2
    go_ret2
    rw [uf.o] at HF
    exact VT HF (YL _ _ 2 _ ([⟨1,p,n,la,0⟩,⟨6,p,n,0,0⟩].flatMap Z_) Zd rfl) ((AU.o.below OP).alloc _) ((wW.o.trans ((Fr.Z9 _ OP).mono Ih (fun _ _ h=>h))).alloc (Rh Ih OP.size) _)
end Go.Proofs.Rm
