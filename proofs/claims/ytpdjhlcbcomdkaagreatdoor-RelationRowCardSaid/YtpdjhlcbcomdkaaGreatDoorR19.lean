/- Part of a proof. -/
import Derived.Test.YtpdjhlcbcomdkaaGreatDoorR18
set_option linter.unusedVariables false
set_option linter.unusedSimpArgs false
set_option maxRecDepth 100000
set_option maxHeartbeats 16000000
open Go Go.Q Go.Qr
namespace Go.Proofs.Rm
open Go.RowKit Go.Proofs.Heap Go.Proofs.Mem
open Go.Proofs.NM (may key Xz)
theorem AE (b:Nat) (T:ZN) (o:Op) (sa ba:Option Addr) (sc bl bc:Nat) (w:World) (hR:ZL w b T) (Vl:T.Small) (hT:Xz w) (UT:o.name.length<9223372036854775807) (S0:∀ x∈T.ZA,x.name.length<9223372036854775807)
  (ZY:XR w (.slice sa o.ZK.length sc) o.ZK.length (YO o.ZK)) (hw:T.X4 o=0) (Wq:rB T o) (hk:o.kind=4) :
  Calls Tryz.prog 72 (Qi (some ⟨b,0,none⟩) (Jo o sa o.ZK.length sc ba bl bc)) w (UU b T o w):=by
 have cw:=We b T o sa ba sc bl bc (w.alloc (.cells (Jo o sa o.ZK.length sc ba bl bc) 32)) (hR.below (Z' _ _)) (Utf8Tabs_below hT (Z' _ _)) UT S0 (ZY.below (Z' _ _));have hb:=hR.lt;have QL:=Zh ZY;have HR:=Zh hR;have Mr:=Zh Vl;have HF:Hid (T.Wm o=(([],T.J3 ⟨o.source,o.peer,o.ZK,false⟩),0)):=by show _=_;unfold ZN.Wm ZN.turns;rw [Z4 (by rw [hw];simp)];simp [hk]
 rw [hw] at cw;have CW:=Zh cw;have PJ:=Zh Wq;obtain ⟨kd,p,n,la,nm,ss⟩:=o;dsimp only at *
 subst hk;have Ab:=Vl.Yg;unfold small at Ab;have Mz:=Wq.ssl rfl;obtain ⟨pv,sv,uv,Yn,XJ⟩:=hR.Vw;obtain ⟨P,Tt,U0,Cn⟩:=XJ.Yg;have hPl:P.length≤100000:=by rw [←Tt,TB] at Ab;exact Ab
 have Bw:Hid (∀ u∈P.flatMap Zq,u.oneCell'=true):=Pr fun x hx=>by obtain ⟨a,c,h,-,-⟩:=Cn x hx;exact ⟨a,_,c,h⟩
 obtain ⟨a,cap,rfl,O9,-,-,-⟩:=id U0;have IP:Hid (∀ w',Below w w w'→Row w' 108 (.slice a P.length cap) P.length (P.flatMap Zq)∧(∀ x∈P,Row w' 66 x.2 x.1.ss.length (YO x.1.ss))∧XR w' (.slice sa ss.length sc) ss.length (YO ss)):=fun w' h=>⟨U0.below h,fun x hx=>(Cn x hx).below h,ZY.below h⟩
 have Bv:=Zh (SU P);have iH:=Zh Tt;have Ky:Hid ((YO ss).length=ss.length*1):=by show _=_;rw [VV,Nat.mul_one]
 have HC:Hid (∀ w',Below w w w'→w'.cell? ⟨b,1,none⟩=some (.slice a P.length cap)∧w'.frozen? ⟨b,1,none⟩=false):=fun w' h=>⟨(h.cell (p:=⟨b,1,none⟩) hb).trans (cell_of Yn 1),(h.frozen (p:=⟨b,1,none⟩) hb).trans (hR.Yz 1)⟩
 clear U0 Cn Yn XJ Tt Ab;clear hR Vl hT UT S0 ZY cw hw Wq;have Ht:=Zh (Z8 w (.cells (Qa 4 p n la (str nm) sa ss.length sc ba bl bc) 32));have F3:=World.size_alloc w (.cells (Qa 4 p n la (str nm) sa ss.length sc ba bl bc) 32);have S5:Hid (Below w w (w.alloc (.cells (Qa 4 p n la (str nm) sa ss.length sc ba bl bc) 32))):=Z' _ _;go_enter Tryz.func72,Tryz.ntmps72;go_wp2_with fail
 (with_reducible refine CW.o.mono ?_)
 rintro e w1 ⟨rfl,YY⟩;have V6:Hid (Below w w w1):=S5.o.trans (YY.mono Zo);have RX:w.heap.size<w1.heap.size:=by have:=YY.size;omega
 have V9:=fun (j:Nat)=>(YY.cell (p:=⟨w,j,none⟩) T_).trans (cell_of Ht.o j)
 have x0:w1.cell? ⟨w,0,none⟩=some (.int .i64 4):=V9 0;have x1:w1.cell? ⟨w,1,none⟩=some (.int .i64 p):=V9 1;have x2:w1.cell? ⟨w,2,none⟩=some (.int .i64 n):=V9 2;have x3:w1.cell? ⟨w,3,none⟩=some (.int .i64 la):=V9 3;have x4:w1.cell? ⟨w,4,none⟩=some (.string (str nm)):=V9 4;have x5:w1.cell? ⟨w,5,none⟩=some (.slice sa ss.length sc):=V9 5;have x6:w1.cell? ⟨w,6,none⟩=some (.slice ba bl bc):=V9 6;clear YY V9;have Zz:Hid (∀ w',Below w1 w1 w'→w'.cell? ⟨b,1,none⟩=some (.slice a P.length cap)∧w'.frozen? ⟨b,1,none⟩=false):=fun w' h=>HC.o _ (V6.o.trans (h.mono Zo))
 have Sz:Hid (∀ w',Below w1 w1 w'→Row w' 108 (.slice a P.length cap) P.length (P.flatMap Zq)∧(∀ x∈P,Row w' 66 x.2 x.1.ss.length (YO x.1.ss))∧XR w' (.slice sa ss.length sc) ss.length (YO ss)):=fun w' h=>IP.o _ (V6.o.trans (h.mono Zo))
 have mA:Hid (∀ w',Below w1 w1 w'→ZL w' b T∧Fr w (· = b) w w'):=fun w' h=>⟨HR.o.below (V6.o.trans (h.mono Zo)),Fr.Z7 _ (V6.o.trans (h.mono Zo))⟩
 have IU:Hid (∀ w',Fr w1 (· = b) w1 w'→w'.cell? ⟨w,1,none⟩=some (.int .i64 p)∧w'.cell? ⟨w,2,none⟩=some (.int .i64 n)∧w'.cell? ⟨w,5,none⟩=some (.slice sa ss.length sc)∧Fr w1 (· = b) w1 w'):=fun w' h=>⟨(h.cell (p:=⟨w,1,none⟩) RX T_).trans x1,(h.cell (p:=⟨w,2,none⟩) RX T_).trans x2,(h.cell (p:=⟨w,5,none⟩) RX T_).trans x5,h⟩
 have NT:Below w1 w1 w1:=YJ _ _;obtain ⟨k0,k1⟩:=Zz.o _ NT;have hbw1:b<w1.heap.size:=by omega
 have ne1:=World.new_ne w1 ⟨b,1,none⟩ k0;clear IP HC;go_upto_region 10 with fail
 refine SX ?_;refine wp_region_held_drew (S:=(fun w'=>w'.cell? ⟨w,1,none⟩=some (.int .i64 p)∧w'.cell? ⟨w,2,none⟩=some (.int .i64 n)∧w'.cell? ⟨w,5,none⟩=some (.slice sa ss.length sc)∧Fr w1 (· = b) w1 w')) ZB ?_ (fun _=>?_)
 ·exact Nh
 refine YA 0 (h:=YA 1 (h:=YA 2 (h:=YA 3 (h:=YA 6 (h:=YA 7 (h:=YA 8 (h:=YA 9 (h:=YA 10 (h:=YA 11 (h:=?_))))))))));refine wpAnyH_ready (rs:=[4]) ZB Zi ?_;refine AllReadyH.cons (i:=4) rfl (fun K hK=>?_) ?_
 ·go_simp;refine hK.out _ _ ?_ (fun _=>?_)
  ·exact Nh
  clear hK K;try simp only [Z_.pt]
  refine wpAnyH_ready (rs:=[5]) ZB Zi ?_;refine AllReadyH.cons (i:=5) rfl (fun K hK=>?_) ?_
  ·(first|(go_split_ands;refine Zp Zr (.const (.slice none 0 0)) (.tmp 46) 48 Zr w1.heap.size UW (.slice none 0 0) 0 [] Zr (TY _ _ _ _) (.slice a P.length cap) P.length (P.flatMap Zq) Zr ?_ Bv.o Bw.o Zo Zo ?_ ?_;(exact (Sz.o _ Wd).1);(exact Below.size Wd);intro v1 w2 T9 OH;have Uk:=XD OH.o;have Yq:Below w1 w1 w2:=Heap.Below.call Wd (Zw _) Uk;have r2:Below w2 w2 w2:=YJ _ _;have rs2:Below ws ws w2:=Heap.Below.call Wd (Zw _) Uk;obtain ⟨k2,k3⟩:=Zz.o _ Yq)|(go_split_ands;refine Zp Zr (.const (.slice none 0 0)) (.tmp 46) 48 Zr w1.heap.size UW (.slice none 0 0) 0 [] Zr (TY _ _ _ _) (.slice a P.length cap) P.length (P.flatMap Zq) Zr ?_ Bv.o Bw.o Zo Zo ?_ ?_;(exact (Sz.o _ Wd).1);(exact Below.size Wd);intro v1 w2 T9 OH;have Uk:=XD OH.o;have Yq:Below w1 w1 w2:=Heap.Below.call Wd (Zw _) Uk;have r2:Below w2 w2 w2:=YJ _ _;  obtain ⟨k2,k3⟩:=Zz.o _ Yq)|(go_split_ands;refine Rk Zr (.const (.slice none 0 0)) (.tmp 53) 29 Zr w1.heap.size Vo (.slice none 0 0) 0 [] Zr (TY _ _ _ _) (.slice sa ss.length sc) ss.length (YO ss) Zr ?_ Ky.o (Rc _) Zo Zo ?_ ?_;(exact (Sz.o _ Wd).2.2);(exact Below.size Wd);intro vs ws DF l_;have uF:=XD l_.o;have Gw:Below w1 w1 ws:=Heap.Below.call Wd (Zw _) uF;have rs:Below ws ws ws:=YJ _ _;have r2s:Below w2 w2 ws:=Heap.Below.call Wd (Zw _) uF;obtain ⟨k2,k3⟩:=Zz.o _ Gw;have MN:=Zh (Row.Z6 DF.o);obtain ⟨Bk,Bl,hv⟩:=WE DF.o;rw [QD] at hv MN;rw [J2] at MN;subst hv)|(go_split_ands;refine Rk Zr (.const (.slice none 0 0)) (.tmp 53) 29 Zr w1.heap.size Vo (.slice none 0 0) 0 [] Zr (TY _ _ _ _) (.slice sa ss.length sc) ss.length (YO ss) Zr ?_ Ky.o (Rc _) Zo Zo ?_ ?_;(exact (Sz.o _ Wd).2.2);(exact Below.size Wd);intro vs ws DF l_;have uF:=XD l_.o;have Gw:Below w1 w1 ws:=Heap.Below.call Wd (Zw _) uF;have rs:Below ws ws ws:=YJ _ _;  obtain ⟨k2,k3⟩:=Zz.o _ Gw;have MN:=Zh (Row.Z6 DF.o);obtain ⟨Bk,Bl,hv⟩:=WE DF.o;rw [QD] at hv MN;rw [J2] at MN;subst hv)|(go_split_ands;refine Zp Zr (.tmp 47) (.tmp 56) 48 Zr w1.heap.size UW v1 (0+P.length) ([]++P.flatMap Zq) Zr ?_ _ 1 (Qq n p Bk ss.length Bl false) Zr ?_ Zr (LB ⟨n,p,ss,false⟩ Bk ss.length Bl) Zo Zo ?_ ?_;(exact Zx T9.o Wd);(repeat (first|((with_reducible refine Tf _ _ 1 (Qq n p Bk ss.length Bl false) Zd _ ?_);rfl)|with_reducible refine Row.drew ?_|with_reducible refine Row.below ?_ Uk));(exact Below.size Wd);intro v2 w3 Px KF;have Wn:Below w1 w1 w3:=Below.grown Wd KF.o (Below.size Wd) (YL T9.o);have dJ:=Row.grown (MN.o.below Wd) (Zx T9.o Wd) KF.o Zd;obtain ⟨k6,k7⟩:=Zz.o _ Wn;obtain ⟨va,vc,hv⟩:=WE Px.o;subst hv))
   refine hK.out _ _ ?_ (fun _=>?_)
   ·exact Nh
   clear hK K;try simp only [Z_.pt]
   refine wpAnyH_ready (rs:=[12]) ZB Zi ?_;refine AllReadyH.cons (i:=12) rfl (fun K hK=>?_) ?_
   ·(first|(go_split_ands;refine Zp Zr (.const (.slice none 0 0)) (.tmp 46) 48 Zr w1.heap.size UW (.slice none 0 0) 0 [] Zr (TY _ _ _ _) (.slice a P.length cap) P.length (P.flatMap Zq) Zr ?_ Bv.o Bw.o Zo Zo ?_ ?_;(exact (Sz.o _ Wd).1);(exact Below.size Wd);intro v1 w2 T9 OH;have Uk:=XD OH.o;have Yq:Below w1 w1 w2:=Heap.Below.call Wd (Zw _) Uk;have r2:Below w2 w2 w2:=YJ _ _;have rs2:Below ws ws w2:=Heap.Below.call Wd (Zw _) Uk;obtain ⟨k2,k3⟩:=Zz.o _ Yq)|(go_split_ands;refine Zp Zr (.const (.slice none 0 0)) (.tmp 46) 48 Zr w1.heap.size UW (.slice none 0 0) 0 [] Zr (TY _ _ _ _) (.slice a P.length cap) P.length (P.flatMap Zq) Zr ?_ Bv.o Bw.o Zo Zo ?_ ?_;(exact (Sz.o _ Wd).1);(exact Below.size Wd);intro v1 w2 T9 OH;have Uk:=XD OH.o;have Yq:Below w1 w1 w2:=Heap.Below.call Wd (Zw _) Uk;have r2:Below w2 w2 w2:=YJ _ _;  obtain ⟨k2,k3⟩:=Zz.o _ Yq)|(go_split_ands;refine Rk Zr (.const (.slice none 0 0)) (.tmp 53) 29 Zr w1.heap.size Vo (.slice none 0 0) 0 [] Zr (TY _ _ _ _) (.slice sa ss.length sc) ss.length (YO ss) Zr ?_ Ky.o (Rc _) Zo Zo ?_ ?_;(exact (Sz.o _ Wd).2.2);(exact Below.size Wd);intro vs ws DF l_;have uF:=XD l_.o;have Gw:Below w1 w1 ws:=Heap.Below.call Wd (Zw _) uF;have rs:Below ws ws ws:=YJ _ _;have r2s:Below w2 w2 ws:=Heap.Below.call Wd (Zw _) uF;obtain ⟨k2,k3⟩:=Zz.o _ Gw;have MN:=Zh (Row.Z6 DF.o);obtain ⟨Bk,Bl,hv⟩:=WE DF.o;rw [QD] at hv MN;rw [J2] at MN;subst hv)|(go_split_ands;refine Rk Zr (.const (.slice none 0 0)) (.tmp 53) 29 Zr w1.heap.size Vo (.slice none 0 0) 0 [] Zr (TY _ _ _ _) (.slice sa ss.length sc) ss.length (YO ss) Zr ?_ Ky.o (Rc _) Zo Zo ?_ ?_;(exact (Sz.o _ Wd).2.2);(exact Below.size Wd);intro vs ws DF l_;have uF:=XD l_.o;have Gw:Below w1 w1 ws:=Heap.Below.call Wd (Zw _) uF;have rs:Below ws ws ws:=YJ _ _;  obtain ⟨k2,k3⟩:=Zz.o _ Gw;have MN:=Zh (Row.Z6 DF.o);obtain ⟨Bk,Bl,hv⟩:=WE DF.o;rw [QD] at hv MN;rw [J2] at MN;subst hv)|(go_split_ands;refine Zp Zr (.tmp 47) (.tmp 56) 48 Zr w1.heap.size UW v1 (0+P.length) ([]++P.flatMap Zq) Zr ?_ _ 1 (Qq n p Bk ss.length Bl false) Zr ?_ Zr (LB ⟨n,p,ss,false⟩ Bk ss.length Bl) Zo Zo ?_ ?_;(exact Zx T9.o Wd);(repeat (first|((with_reducible refine Tf _ _ 1 (Qq n p Bk ss.length Bl false) Zd _ ?_);rfl)|with_reducible refine Row.drew ?_|with_reducible refine Row.below ?_ Uk));(exact Below.size Wd);intro v2 w3 Px KF;have Wn:Below w1 w1 w3:=Below.grown Wd KF.o (Below.size Wd) (YL T9.o);have dJ:=Row.grown (MN.o.below Wd) (Zx T9.o Wd) KF.o Zd;obtain ⟨k6,k7⟩:=Zz.o _ Wn;obtain ⟨va,vc,hv⟩:=WE Px.o;subst hv))
    refine hK.out _ _ ?_ (fun _=>?_)
    ·exact Nh
    clear hK K;try simp only [Z_.pt]
    refine YA 13 (h:=?_);refine wpAnyH_ready (rs:=[14]) ZB Zi ?_;refine AllReadyH.cons (i:=14) rfl (fun K hK=>?_) ?_
    ·go_simp;refine hK.out _ _ ?_ (fun _=>?_)
     ·exact Nh
     clear hK K;try simp only [Z_.pt]
     refine wpAnyH_ready (rs:=[15]) ZB Zi ?_;refine AllReadyH.cons (i:=15) rfl (fun K hK=>?_) ?_
     ·(first|(go_split_ands;refine Zp Zr (.const (.slice none 0 0)) (.tmp 46) 48 Zr w1.heap.size UW (.slice none 0 0) 0 [] Zr (TY _ _ _ _) (.slice a P.length cap) P.length (P.flatMap Zq) Zr ?_ Bv.o Bw.o Zo Zo ?_ ?_;(exact (Sz.o _ Wd).1);(exact Below.size Wd);intro v1 w2 T9 OH;have Uk:=XD OH.o;have Yq:Below w1 w1 w2:=Heap.Below.call Wd (Zw _) Uk;have r2:Below w2 w2 w2:=YJ _ _;have rs2:Below ws ws w2:=Heap.Below.call Wd (Zw _) Uk;obtain ⟨k2,k3⟩:=Zz.o _ Yq)|(go_split_ands;refine Zp Zr (.const (.slice none 0 0)) (.tmp 46) 48 Zr w1.heap.size UW (.slice none 0 0) 0 [] Zr (TY _ _ _ _) (.slice a P.length cap) P.length (P.flatMap Zq) Zr ?_ Bv.o Bw.o Zo Zo ?_ ?_;(exact (Sz.o _ Wd).1);(exact Below.size Wd);intro v1 w2 T9 OH;have Uk:=XD OH.o;have Yq:Below w1 w1 w2:=Heap.Below.call Wd (Zw _) Uk;have r2:Below w2 w2 w2:=YJ _ _;  obtain ⟨k2,k3⟩:=Zz.o _ Yq)|(go_split_ands;refine Rk Zr (.const (.slice none 0 0)) (.tmp 53) 29 Zr w1.heap.size Vo (.slice none 0 0) 0 [] Zr (TY _ _ _ _) (.slice sa ss.length sc) ss.length (YO ss) Zr ?_ Ky.o (Rc _) Zo Zo ?_ ?_;(exact (Sz.o _ Wd).2.2);(exact Below.size Wd);intro vs ws DF l_;have uF:=XD l_.o;have Gw:Below w1 w1 ws:=Heap.Below.call Wd (Zw _) uF;have rs:Below ws ws ws:=YJ _ _;have r2s:Below w2 w2 ws:=Heap.Below.call Wd (Zw _) uF;obtain ⟨k2,k3⟩:=Zz.o _ Gw;have MN:=Zh (Row.Z6 DF.o);obtain ⟨Bk,Bl,hv⟩:=WE DF.o;rw [QD] at hv MN;rw [J2] at MN;subst hv)|(go_split_ands;refine Rk Zr (.const (.slice none 0 0)) (.tmp 53) 29 Zr w1.heap.size Vo (.slice none 0 0) 0 [] Zr (TY _ _ _ _) (.slice sa ss.length sc) ss.length (YO ss) Zr ?_ Ky.o (Rc _) Zo Zo ?_ ?_;(exact (Sz.o _ Wd).2.2);(exact Below.size Wd);intro vs ws DF l_;have uF:=XD l_.o;have Gw:Below w1 w1 ws:=Heap.Below.call Wd (Zw _) uF;have rs:Below ws ws ws:=YJ _ _;  obtain ⟨k2,k3⟩:=Zz.o _ Gw;have MN:=Zh (Row.Z6 DF.o);obtain ⟨Bk,Bl,hv⟩:=WE DF.o;rw [QD] at hv MN;rw [J2] at MN;subst hv)|(go_split_ands;refine Zp Zr (.tmp 47) (.tmp 56) 48 Zr w1.heap.size UW v1 (0+P.length) ([]++P.flatMap Zq) Zr ?_ _ 1 (Qq n p Bk ss.length Bl false) Zr ?_ Zr (LB ⟨n,p,ss,false⟩ Bk ss.length Bl) Zo Zo ?_ ?_;(exact Zx T9.o Wd);(repeat (first|((with_reducible refine Tf _ _ 1 (Qq n p Bk ss.length Bl false) Zd _ ?_);rfl)|with_reducible refine Row.drew ?_|with_reducible refine Row.below ?_ Uk));(exact Below.size Wd);intro v2 w3 Px KF;have Wn:Below w1 w1 w3:=Below.grown Wd KF.o (Below.size Wd) (YL T9.o);have dJ:=Row.grown (MN.o.below Wd) (Zx T9.o Wd) KF.o Zd;obtain ⟨k6,k7⟩:=Zz.o _ Wn;obtain ⟨va,vc,hv⟩:=WE Px.o;subst hv))
      refine hK.out _ _ ?_ (fun _=>?_)
      ·exact Nh
      clear hK K;try simp only [Z_.pt]
      refine YA 16 (h:=YA 17 (h:=?_));refine wpAnyH_ready (rs:=[18]) ZB Zi ?_;refine AllReadyH.cons (i:=18) rfl (fun K hK=>?_) ?_
      ·go_simp;refine hK.out _ _ ?_ (fun _=>?_)
       ·exact Nh
       clear hK K;try simp only [Z_.pt]
       refine wpAnyH_done ZB ?_ _;refine RA ?_;go_wp2
       go_ret2
       obtain ⟨Fh,gI⟩:=mA.o _ Wn;have ZY:=Row.Z6 Px.o;rw [J2,QD] at ZY
       have z_:=Fh.Ij (P++[(⟨n,p,ss,false⟩,.slice Bk ss.length Bl)]) (l:=T.Yg++[⟨n,p,ss,false⟩]) (by rw [NR,iH.o];rfl) (by rw [show (P++[((⟨n,p,ss,false⟩:Wl),Value.slice Bk ss.length Bl)]).flatMap Zq=P.flatMap Zq++[.int .i64 n,.int .i64 p,.slice Bk ss.length Bl,.bool false] by rw [OQ];rfl,show (P++[((⟨n,p,ss,false⟩:Wl),Value.slice Bk ss.length Bl)]).length=P.length+1 by simp];exact ZY) (fun x hx=>by
        rcases DN.1 hx with hx|hx
        ·exact (Sz.o _ Wn).2.1 x hx
        ·rw [J1] at hx;subst hx;exact dJ)
       exact Vi HF (Row.nil _ _) z_ (gI.setAt _ _)
      exact AllReadyH.nil
     exact AllReadyH.nil
    exact AllReadyH.nil
   exact AllReadyH.nil
  exact AllReadyH.nil
 exact AllReadyH.nil
theorem Fw (b:Nat) (T:ZN) (o:Op) (sa ba:Option Addr) (sc bl bc:Nat) (w:World) (hR:ZL w b T) (Vl:T.Small) (hT:Xz w) (UT:o.name.length<9223372036854775807) (S0:∀ x∈T.ZA,x.name.length<9223372036854775807)
  (ZY:XR w (.slice sa o.ZK.length sc) o.ZK.length (YO o.ZK)) (hw:T.X4 o=0) (Wq:rB T o) (hk:o.kind=6) :
  Calls Tryz.prog 72 (Qi (some ⟨b,0,none⟩) (Jo o sa o.ZK.length sc ba bl bc)) w (UU b T o w):=by
 have cw:=We b T o sa ba sc bl bc (w.alloc (.cells (Jo o sa o.ZK.length sc ba bl bc) 32)) (hR.below (Z' _ _)) (Utf8Tabs_below hT (Z' _ _)) UT S0 (ZY.below (Z' _ _));have hb:=hR.lt;have QL:=Zh ZY;have HR:=Zh hR;have Mr:=Zh Vl;have HF:Hid (T.Wm o=(T.subscribe o,0)):=by show _=_;unfold ZN.Wm ZN.turns;rw [Z4 (by rw [hw];simp)];simp [hk]
 rw [hw] at cw;have CW:=Zh cw;have PJ:=Zh Wq;obtain ⟨kd,p,n,la,nm,ss⟩:=o;dsimp only at *
 subst hk;have Ab:=Vl.Z0;unfold small at Ab;obtain ⟨pv,sv,uv,Yn,XJ⟩:=hR.Vw;have U0:=XJ.Z0;obtain ⟨a,cap,rfl,O9,-,-,-⟩:=id U0;have IP:Hid (∀ w',Below w w w'→Row w' 105 (.slice a T.Z0.length cap) T.Z0.length (T.Z0.flatMap Zt)):=fun w' h=>U0.below h
 have Bv:=Zh (Tv T.Z0);have HC:Hid (∀ w',Below w w w'→w'.cell? ⟨b,2,none⟩=some (.slice a T.Z0.length cap)∧w'.frozen? ⟨b,2,none⟩=false):=fun w' h=>⟨(h.cell (p:=⟨b,2,none⟩) hb).trans (cell_of Yn 2),(h.frozen (p:=⟨b,2,none⟩) hb).trans (hR.Yz 2)⟩
 have kv:0≤(T.Ve ⟨p,n,la,false⟩).YU n:=Wq.src Zi;have EZ:=Zh (fun (w1:World) (h:ZL w1 b (T.Ve ⟨p,n,la,false⟩))=>Hy b (T.Ve ⟨p,n,la,false⟩) ⟨p,n,la,false⟩ w1 h kv (Wq.ZH rfl));have HSU:Hid (T.subscribe ⟨6,p,n,la,nm,ss⟩=(⟨1,p,n,la,0⟩ :: (if ((T.Ve ⟨p,n,la,false⟩).Wb n).ZE then [⟨6,p,n,0,0⟩] else [(T.Ve ⟨p,n,la,false⟩).ask ⟨p,n,la,false⟩]),T.Ve ⟨p,n,la,false⟩)):=rfl;obtain ⟨m,hm,O8,-,-⟩:=XI kv;have O8:(T.Ve ⟨p,n,la,false⟩).YU n=m:=O8
 have CS:Hid (∀ w1,ZL w1 b (T.Ve ⟨p,n,la,false⟩)→Calls Tryz.prog 49 (Qk (some ⟨b,0,none⟩) n) w1 fun e w'=>e = .returned (.int .i64 m)∧Below w1 w1 w'):=fun w1 h=>by
  have h1:=VW b _ n w1 h;rw [O8] at h1;exact h1
 have qu:Hid (((T.Ve ⟨p,n,la,false⟩).Wb n).ZE=(T.Ve ⟨p,n,la,false⟩).Yg[m].ZE):=by
  show _=_;unfold ZN.Wb;rw [O8,Wz,SC,Vb hm];rfl
 clear U0 Yn XJ kv O8;clear hR Vl hT UT S0 ZY cw hw Wq;have Ht:=Zh (Z8 w (.cells (Qa 6 p n la (str nm) sa ss.length sc ba bl bc) 32));have F3:=World.size_alloc w (.cells (Qa 6 p n la (str nm) sa ss.length sc ba bl bc) 32);have S5:Hid (Below w w (w.alloc (.cells (Qa 6 p n la (str nm) sa ss.length sc ba bl bc) 32))):=Z' _ _;go_enter Tryz.func72,Tryz.ntmps72;go_wp2_with fail
 (with_reducible refine CW.o.mono ?_)
 rintro e w1 ⟨rfl,YY⟩;have V6:Hid (Below w w w1):=S5.o.trans (YY.mono Zo);have RX:w.heap.size<w1.heap.size:=by have:=YY.size;omega
 have V9:=fun (j:Nat)=>(YY.cell (p:=⟨w,j,none⟩) T_).trans (cell_of Ht.o j)
 have x0:w1.cell? ⟨w,0,none⟩=some (.int .i64 6):=V9 0;have x1:w1.cell? ⟨w,1,none⟩=some (.int .i64 p):=V9 1;have x2:w1.cell? ⟨w,2,none⟩=some (.int .i64 n):=V9 2;have x3:w1.cell? ⟨w,3,none⟩=some (.int .i64 la):=V9 3;have x4:w1.cell? ⟨w,4,none⟩=some (.string (str nm)):=V9 4;have x5:w1.cell? ⟨w,5,none⟩=some (.slice sa ss.length sc):=V9 5;have x6:w1.cell? ⟨w,6,none⟩=some (.slice ba bl bc):=V9 6;clear YY V9;have Be:=size_alloc w1 (.cells (Ql p n la false) 105);have JX:=Z8 w1 (.cells (Ql p n la false) 105);have HV1:=Z' w1 (.cells (Ql p n la false) 105);have z1:=(HV1.cell (p:=⟨w,1,none⟩) RX).trans x1;have z2:=(HV1.cell (p:=⟨w,2,none⟩) RX).trans x2;have z3:=(HV1.cell (p:=⟨w,3,none⟩) RX).trans x3;go_upto_region 15 with fail
 clear x0 x1 x2 x3 x4 x5 x6;generalize w1.alloc (.cells (Ql p n la false) 105)=V at *
 have DB:Hid (Below w w V):=V6.o.trans (HV1.mono Zo);have hVs:w.heap.size<V.heap.size:=by omega
 have jX:w1.heap.size<V.heap.size:=by omega
 have hb1n:¬b=w1.heap.size:=by have:=V6.o.size;omega
 have hb1n':¬w1.heap.size=b:=by omega
 have Zz:Hid (∀ w',Below V V w'→w'.cell? ⟨b,2,none⟩=some (.slice a T.Z0.length cap)∧w'.frozen? ⟨b,2,none⟩=false):=fun w' h=>HC.o _ (DB.o.trans (h.mono Zo))
 have Sz:Hid (∀ w',Below V V w'→Row w' 105 (.slice a T.Z0.length cap) T.Z0.length (T.Z0.flatMap Zt)):=fun w' h=>IP.o _ (DB.o.trans (h.mono Zo))
 have mA:Hid (∀ w',Below V V w'→ZL w' b T∧Fr w (· = b) w w'):=fun w' h=>⟨HR.o.below (DB.o.trans (h.mono Zo)),Fr.Z7 _ (DB.o.trans (h.mono Zo))⟩
 have IU:Hid (∀ w',Fr V (· = b) V w'→w'.cell? ⟨w1,0,none⟩=some (.int .i64 p)∧w'.cell? ⟨w1,1,none⟩=some (.int .i64 n)∧w'.cell? ⟨w1,2,none⟩=some (.int .i64 la)∧w'.cell? ⟨w1,3,none⟩=some (.bool false)∧Fr V (· = b) V w'):=fun w' h=>⟨(h.cell (p:=⟨w1,0,none⟩) jX T_).trans (cell_of JX 0),(h.cell (p:=⟨w1,1,none⟩) jX T_).trans (cell_of JX 1),(h.cell (p:=⟨w1,2,none⟩) jX T_).trans (cell_of JX 2),(h.cell (p:=⟨w1,3,none⟩) jX T_).trans (cell_of JX 3),h⟩
 have ft:Hid (∀ w',Fr V (· = b) V w'→w'.cell? ⟨w,1,none⟩=some (.int .i64 p)∧w'.cell? ⟨w,2,none⟩=some (.int .i64 n)∧w'.cell? ⟨w,3,none⟩=some (.int .i64 la)):=fun w' h=>⟨(h.cell (p:=⟨w,1,none⟩) hVs T_).trans z1,(h.cell (p:=⟨w,2,none⟩) hVs T_).trans z2,(h.cell (p:=⟨w,3,none⟩) hVs T_).trans z3⟩
 have NT:Below V V V:=YJ _ _;obtain ⟨k0,k1⟩:=Zz.o _ NT;have hbw1:b<V.heap.size:=by omega
 have ne1:=World.new_ne V ⟨b,2,none⟩ k0;clear IP HC HV1 z1 z2 z3 JX Be;go_cut [] (fun wx=>ZL wx b (T.Ve ⟨p,n,la,false⟩)∧Fr w (· = b) w wx∧Fr V (· = b) V wx)
 case first=>
  refine SX ?_;refine wp_region_held_drew (S:=(fun w'=>w'.cell? ⟨w1,0,none⟩=some (.int .i64 p)∧w'.cell? ⟨w1,1,none⟩=some (.int .i64 n)∧w'.cell? ⟨w1,2,none⟩=some (.int .i64 la)∧w'.cell? ⟨w1,3,none⟩=some (.bool false)∧Fr V (· = b) V w')) ZB ?_ (fun _=>?_)
  ·exact Nh
  refine YA 0 (h:=YA 1 (h:=YA 2 (h:=YA 3 (h:=YA 6 (h:=?_)))));refine wpAnyH_ready (rs:=[4,7]) ZB Zi ?_;refine AllReadyH.cons (i:=4) rfl (fun K hK=>?_) ?_
  ·go_simp;refine hK.out _ _ ?_ (fun _=>?_)
   ·exact Nh
   clear hK K;try simp only [Z_.pt]
   refine wpAnyH_ready (rs:=[5,7]) ZB Zi ?_;refine AllReadyH.cons (i:=5) rfl (fun K hK=>?_) ?_
   ·(first|(go_split_ands;refine Zp Zr (.const (.slice none 0 0)) (.tmp 79) 49 Zr V.heap.size Uh (.slice none 0 0) 0 [] Zr (TY _ _ _ _) (.slice a T.Z0.length cap) T.Z0.length (T.Z0.flatMap Zt) Zr ?_ Bv.o (Tw _) Zo Zo ?_ ?_;(exact Sz.o _ Wd);(exact Below.size Wd);intro v1 w2 T9 OH;have Uk:=XD OH.o;have Yq:Below V V w2:=Heap.Below.call Wd (Zw _) Uk;have r2:Below w2 w2 w2:=YJ _ _;obtain ⟨k2,k3⟩:=Zz.o _ Yq)|(go_split_ands;refine Zp Zr (.tmp 80) (.tmp 82) 49 Zr V.heap.size Uh v1 (0+T.Z0.length) ([]++T.Z0.flatMap Zt) Zr ?_ _ 1 (Ql p n la false) Zr ?_ Zr (LC ⟨p,n,la,false⟩) Zo Zo ?_ ?_;(exact Zx T9.o Wd);(repeat (first|((with_reducible refine Tf _ _ 1 (Ql p n la false) Zd _ ?_);rfl)|with_reducible refine Row.drew ?_|with_reducible refine Row.below ?_ Uk));(exact Below.size Wd);intro v2 w3 Px KF;have Wn:Below V V w3:=Below.grown Wd KF.o (Below.size Wd) (YL T9.o);obtain ⟨k6,k7⟩:=Zz.o _ Wn;obtain ⟨va,vc,hv⟩:=WE Px.o;subst hv))
    refine hK.out _ _ ?_ (fun _=>?_)
    ·exact Nh
    clear hK K;try simp only [Z_.pt]
    refine wpAnyH_ready (rs:=[7]) ZB Zi ?_;refine AllReadyH.cons (i:=7) rfl (fun K hK=>?_) ?_
    ·go_simp;exact Yx7
    exact AllReadyH.nil
   refine AllReadyH.cons (i:=7) rfl (fun K hK=>?_) ?_
   ·exact Yx28
   exact AllReadyH.nil
  refine AllReadyH.cons (i:=7) rfl (fun K hK=>?_) ?_
  ·go_simp;refine hK.out _ _ ?_ (fun _=>?_)
   ·exact Nh
   clear hK K;try simp only [Z_.pt]
   refine wpAnyH_ready (rs:=[4]) ZB Zi ?_;refine AllReadyH.cons (i:=4) rfl (fun K hK=>?_) ?_
   ·exact Yx28
   exact AllReadyH.nil
  exact AllReadyH.nil
 case rest=>
  obtain ⟨UX,Wu,hfv⟩:=hcut;obtain ⟨W5,rfl⟩:∃ W5:World,W5=wc:=⟨_,rfl⟩;obtain ⟨y0,y1,y2,y3,-⟩:=IU.o _ hfv;obtain ⟨x1,x2,x3⟩:=ft.o _ hfv;have ag:=hfv.size;have fo:=Zh UX;have HFR5:=Zh Wu;clear NT k0 k1 ne1 UX Wu hfv;have Uk:=Z' W5 (.cells (Qh 1 p n la 0) 158);have ht:=Z8 W5 (.cells (Qh 1 p n la 0) 158);have nW:=fo.o.alloc (.cells (Qh 1 p n la 0) 158);have gj:=HFR5.o.alloc Zo (.cells (Qh 1 p n la 0) 158);have kB:=World.size_alloc W5 (.cells (Qh 1 p n la 0) 158);have ie:=(Uk.cell (p:=⟨w1,0,none⟩) T_).trans y0;have y1':=(Uk.cell (p:=⟨w1,1,none⟩) T_).trans y1;have kR:=(Uk.cell (p:=⟨w1,2,none⟩) T_).trans y2;have ig:=(Uk.cell (p:=⟨w1,3,none⟩) T_).trans y3;have yp':=(Uk.cell (p:=⟨w,1,none⟩) T_).trans x1;have aC:=(Uk.cell (p:=⟨w,2,none⟩) T_).trans x2;go_upto_region 17 with fail
  generalize W5.alloc (.cells (Qh 1 p n la 0) 158)=W6 at *
  have yV:=Zh nW;have eV:=Zh gj;obtain ⟨pv6,sv6,uv6,Nn,JE⟩:=nW.Vw;obtain ⟨P,Tt,U0,Cn⟩:=JE.Yg;have oC:m<P.length:=by rw [←Tt,TB] at hm;exact hm
  have gm:=U0.len;have s1:=cell_of Nn 1;obtain ⟨pa,pc,rfl,-,-⟩:=id U0;obtain ⟨gs,QX,e4,Tn⟩:=Sw U0 Zo;subst e4;obtain ⟨-,-,-,s4⟩:=Tn m P[m] (Vb oC)
  have gp:P[m].1.ZE=(T.Ve ⟨p,n,la,false⟩).Yg[m].ZE:=by
   have:(P.map Prod.fst)[m]?=(T.Ve ⟨p,n,la,false⟩).Yg[m]?:=by rw [Tt]
   rw [List.getElem?_map,Vb oC,Vb hm] at this;simp at this;rw [this]
  rw [gp] at s4
  have cV:gs<W6.heap.size:=by
   exact bF
  have kp:(m:Int)<(P.length:Int):=OP.2 oC;have sB:(0:Int)≤(m:Int):=qD m;have Ec:b<W6.heap.size:=by omega
  have uI:w1.heap.size<W6.heap.size:=by omega
  have Ea:W5.heap.size<W6.heap.size:=by omega
  have dU:w.heap.size<W6.heap.size:=by omega
  have GG:w.heap.size≤W6.heap.size:=by omega
  clear Nn JE Tt U0 Cn Tn gp nW gj kB;generalize P.length=NP at *
  generalize (T.Ve ⟨p,n,la,false⟩).Yg[m].ZE=mu at *
  have Xa:Hid (∀ w',Below W6 W6 w'→(w'.cell? ⟨w1,0,none⟩=some (.int .i64 p)∧w'.cell? ⟨w1,1,none⟩=some (.int .i64 n)∧w'.cell? ⟨w1,2,none⟩=some (.int .i64 la)∧w'.cell? ⟨w1,3,none⟩=some (.bool false))∧(w'.cell? ⟨W5,0,none⟩=some (.int .i64 1)∧w'.cell? ⟨W5,1,none⟩=some (.int .i64 p)∧w'.cell? ⟨W5,2,none⟩=some (.int .i64 n)∧w'.cell? ⟨W5,3,none⟩=some (.int .i64 la)∧w'.cell? ⟨W5,4,none⟩=some (.int .u32 0))∧w'.cell? ⟨w,1,none⟩=some (.int .i64 p)∧w'.cell? ⟨w,2,none⟩=some (.int .i64 n)∧w'.cell? ⟨b,1,none⟩=some (.slice (some ⟨gs,QX,none⟩) NP pc)∧w'.cell? ⟨gs,QX+m*4+3,none⟩=some (.bool mu)∧Below W6 W6 w'):=fun w' h=>
   ⟨⟨(h.cell (p:=⟨w1,0,none⟩) uI).trans ie,(h.cell (p:=⟨w1,1,none⟩) uI).trans y1',(h.cell (p:=⟨w1,2,none⟩) uI).trans kR,(h.cell (p:=⟨w1,3,none⟩) uI).trans ig⟩,⟨(h.cell (p:=⟨W5,0,none⟩) Ea).trans (cell_of ht 0),(h.cell (p:=⟨W5,1,none⟩) Ea).trans (cell_of ht 1),(h.cell (p:=⟨W5,2,none⟩) Ea).trans (cell_of ht 2),(h.cell (p:=⟨W5,3,none⟩) Ea).trans (cell_of ht 3),(h.cell (p:=⟨W5,4,none⟩) Ea).trans (cell_of ht 4)⟩,(h.cell (p:=⟨w,1,none⟩) dU).trans yp',(h.cell (p:=⟨w,2,none⟩) dU).trans aC,(h.cell (p:=⟨b,1,none⟩) Ec).trans s1,(h.cell (p:=⟨gs,QX+m*4+3,none⟩) cV).trans s4,h⟩
  clear ht y0 y1 y2 y3 x1 x2 x3 ie y1' kR ig aC yp' s1 s4 Uk fo HFR5 Zz IU ft Sz mA HR Mr V6 DB Bv;generalize T.Ve ⟨p,n,la,false⟩=T1 at *
  generalize T1.ask ⟨p,n,la,false⟩=TA at *
  have NT:Below W6 W6 W6:=YJ _ _;go_cut [103] (fun s103 wx=>s103 = .bool mu∧Below W6 W6 wx)
  case first=>
   go_region_held3 (fun w'=>(w'.cell? ⟨w1,0,none⟩=some (.int .i64 p)∧w'.cell? ⟨w1,1,none⟩=some (.int .i64 n)∧w'.cell? ⟨w1,2,none⟩=some (.int .i64 la)∧w'.cell? ⟨w1,3,none⟩=some (.bool false))∧(w'.cell? ⟨W5,0,none⟩=some (.int .i64 1)∧w'.cell? ⟨W5,1,none⟩=some (.int .i64 p)∧w'.cell? ⟨W5,2,none⟩=some (.int .i64 n)∧w'.cell? ⟨W5,3,none⟩=some (.int .i64 la)∧w'.cell? ⟨W5,4,none⟩=some (.int .u32 0))∧w'.cell? ⟨w,1,none⟩=some (.int .i64 p)∧w'.cell? ⟨w,2,none⟩=some (.int .i64 n)∧w'.cell? ⟨b,1,none⟩=some (.slice (some ⟨gs,QX,none⟩) NP pc)∧w'.cell? ⟨gs,QX+m*4+3,none⟩=some (.bool mu)∧Below W6 W6 w') (first|(exact Xa.o _ WS)|(exact Xa.o _ (Below.drew WS))|go_keep) (first|(go_at_call 49;go_split_ands;(with_reducible refine Calls.mono (CS.o _ (yV.o.below WS)) ?_);rintro e V2 ⟨rfl,NJ⟩;have Nl:=Heap.Below.call WS (Zw _) NJ)|fail)
   all_goals (go_wp2_with fail;go_meet;exact ⟨rfl,by first|with_reducible assumption|exact Below.drew WS⟩)
  case rest=>
   clear NT;obtain ⟨rfl,NW⟩:=hcut;obtain ⟨W7,rfl⟩:∃ W7:World,W7=wc:=⟨_,rfl⟩;cases mu
   ·have qx:Hid (T.subscribe ⟨6,p,n,la,nm,ss⟩=([⟨1,p,n,la,0⟩,TA],T1)):=by show _=_;rw [HSU.o,qu.o];rfl
    go_upto_region 19 with fail
    go_region_held3 (fun w'=>(w'.cell? ⟨w1,0,none⟩=some (.int .i64 p)∧w'.cell? ⟨w1,1,none⟩=some (.int .i64 n)∧w'.cell? ⟨w1,2,none⟩=some (.int .i64 la)∧w'.cell? ⟨w1,3,none⟩=some (.bool false))∧(w'.cell? ⟨W5,0,none⟩=some (.int .i64 1)∧w'.cell? ⟨W5,1,none⟩=some (.int .i64 p)∧w'.cell? ⟨W5,2,none⟩=some (.int .i64 n)∧w'.cell? ⟨W5,3,none⟩=some (.int .i64 la)∧w'.cell? ⟨W5,4,none⟩=some (.int .u32 0))∧w'.cell? ⟨w,1,none⟩=some (.int .i64 p)∧w'.cell? ⟨w,2,none⟩=some (.int .i64 n)∧w'.cell? ⟨b,1,none⟩=some (.slice (some ⟨gs,QX,none⟩) NP pc)∧w'.cell? ⟨gs,QX+m*4+3,none⟩=some (.bool false)∧Below W6 W6 w') (first|(exact Xa.o _ WS)|(exact Xa.o _ (Below.drew WS))|(exact Xa.o _ (Heap.Below.alloc' WS (Zw _) _))|(exact Xa.o _ (Heap.Below.alloc' (Below.drew WS) (Zw _) _))|go_keep) (first|(go_at_call 99;go_split_ands;(with_reducible refine Calls.mono (EZ.o _ (yV.o.below WS)) ?_);rintro e V3 ⟨rfl,NJ⟩;have Fe:=Heap.Below.call WS (Zw _) NJ;unfold V4)|fail)
    go_wp2
    go_ret2
    rw [qx.o] at HF;exact Vi HF (Yr _ _ 2 _ ([⟨1,p,n,la,0⟩,TA].flatMap Z9) Zd rfl) (yV.o.below (Fe.alloc Fe.size _)) (eV.o.trans ((Fr.Z7 _ (Fe.alloc Fe.size _)).mono GG (fun _ _ h=>h)))
   ·have qx:Hid (T.subscribe ⟨6,p,n,la,nm,ss⟩=([⟨1,p,n,la,0⟩,⟨6,p,n,0,0⟩],T1)):=by show _=_;rw [HSU.o,qu.o];rfl
    obtain ⟨-,⟨t0,t1,t2,t3,t4⟩,q1,q2,-⟩:=Xa.o _ NW;have hzt:W5.heap.size<W7.heap.size:=OS Ea NW.size;have hzw:w.heap.size<W7.heap.size:=OS dU NW.size;go_wp2
    go_ret2
    rw [qx.o] at HF;exact Vi HF (Yr _ _ 2 _ ([⟨1,p,n,la,0⟩,⟨6,p,n,0,0⟩].flatMap Z9) Zd rfl) ((yV.o.below NW).alloc _) ((eV.o.trans ((Fr.Z7 _ NW).mono GG (fun _ _ h=>h))).alloc (PO GG NW.size) _)
end Go.Proofs.Rm
namespace Go.Proofs.Rm
open Go.RowKit Go.Proofs.Heap Go.Proofs.Mem
open Go.Proofs.NM (may key Xz)
theorem kN (b:Nat) (T:ZN) (o:Op) (sa ba:Option Addr) (sc bl bc:Nat) (w:World) (hR:ZL w b T) (Vl:T.Small) (hT:Xz w) (UT:o.name.length<9223372036854775807) (S0:∀ x∈T.ZA,x.name.length<9223372036854775807)
  (ZY:XR w (.slice sa o.ZK.length sc) o.ZK.length (YO o.ZK)) (Wq:T.X4 o=0→rB T o) :
  Calls Tryz.prog 72 (Qi (some ⟨b,0,none⟩) (Jo o sa o.ZK.length sc ba bl bc)) w (UU b T o w):=by
 by_cases hw:T.X4 o=0
 ·have ok:=Wq hw;have hk:=ok.kind;have:o.kind=2∨o.kind=3∨o.kind=4∨o.kind=5∨o.kind=6∨o.kind=7∨o.kind=8∨o.kind=9∨o.kind=10∨o.kind=11∨o.kind=12:=by omega
  rcases this with h|h|h|h|h|h|h|h|h|h|h
  ·exact pR b T o sa ba sc bl bc w hR Vl hT UT S0 ZY hw ok h
  ·exact tE b T o sa ba sc bl bc w hR Vl hT UT S0 ZY hw ok h
  ·exact AE b T o sa ba sc bl bc w hR Vl hT UT S0 ZY hw ok h
  ·exact Fx b T o sa ba sc bl bc w hR Vl hT UT S0 ZY hw ok h
  ·exact Fw b T o sa ba sc bl bc w hR Vl hT UT S0 ZY hw ok h
  ·exact IG b T o sa ba sc bl bc w hR Vl hT UT S0 ZY hw ok h
  ·exact pS b T o sa ba sc bl bc w hR Vl hT UT S0 ZY hw ok h
  ·exact xA b T o sa ba sc bl bc w hR Vl hT UT S0 ZY hw ok h
  ·exact tF b T o sa ba sc bl bc w hR Vl hT UT S0 ZY hw ok h
  ·exact xy b T o sa ba sc bl bc w hR Vl hT UT S0 ZY hw ok h
  ·exact pT b T o sa ba sc bl bc w hR Vl hT UT S0 ZY hw ok h
 ·exact kO b T o sa ba sc bl bc w hR Vl hT UT S0 ZY hw
end Go.Proofs.Rm
namespace Go.Proofs.tX
section
variable {α κ:Type} (key:α→κ)
def NN (l:List α):Prop:=(l.map key).Nodup
theorem Pt {x:α} {l:List α}:NN key (x :: l)↔(∀ y∈l,key y≠key x)∧NN key l:=by
 unfold NN;rw [List.map_cons,List.nodup_cons];constructor
 ·rintro ⟨h1,h2⟩;exact ⟨fun y hy e=>h1 (by rw [←e];exact List.mem_map_of_mem hy),h2⟩
 ·rintro ⟨h1,h2⟩;refine ⟨fun h=>?_,h2⟩;obtain ⟨y,hy,e⟩:=vO.1 h;exact h1 y hy e
theorem LZ {l:List α} (hu:NN key l) (i:Nat):NN key (l.eraseIdx i):=
 List.Nodup.sublist ((List.eraseIdx_sublist l i).map key) hu
theorem AX {l:List α} (hu:NN key l) {i:Nat} (hi:i<l.length) {y:α} (hy:key y=key l[i]):NN key (l.set i y):=by
 unfold NN at *
 have:(l.set i y).map key=l.map key:=by
  rw [List.map_set,hy];have:key l[i]=(l.map key)[i]'(by simpa using hi):=by simp
  rw [this,List.set_getElem_self]
 rw [this];exact hu
end
section
variable {α κ:Type} [DecidableEq κ] (key:α→κ)
def lk (l:List α) (k:κ):Option α:=l.find? fun x=>decide (key x=k)
theorem Rt (x:α) (l:List α) (k:κ):lk key (x :: l) k=if key x=k then some x else lk key l k:=by
 unfold lk;by_cases h:key x=k <;> simp [h]
theorem Kf (l:List α) (x:α) (k:κ):lk key (l++[x]) k=(lk key l k).or (if key x=k then some x else none):=by
 unfold lk;rw [List.find?_append];by_cases h:key x=k <;> simp [h]
theorem Cw {l:List α} {k:κ}:lk key l k=none↔∀ x∈l,key x≠k:=by
 unfold lk;rw [List.find?_eq_none];simp
theorem Kg {l:List α} (hu:NN key l) {x:α} (hx:x∈l):lk key l (key x)=some x:=by
 induction l with
 | nil=>cases hx
 | cons y l ih=>
  rw [Rt];obtain ⟨h1,h2⟩:=(Pt key).1 hu;rcases KN.1 hx with rfl|hx
  ·rw [ZR rfl]
  ·rw [Z4 (fun e=>h1 x hx e.symm)];exact ih h2 hx
theorem ND {l:List α} {x:α} (hu:NN key l) (h:lk key l (key x)=none):NN key (l++[x]):=by
 unfold NN at *
 rw [NR,List.nodup_append];refine ⟨hu,by simp,?_⟩;intro a ha b hb e;obtain ⟨y,hy,rfl⟩:=vO.1 ha;simp at hb;subst hb;exact (Cw key).1 h y hy e
theorem J5 {l:List α} {k:κ} (h:lk key l k=none):l.findIdx? (fun x=>decide (key x=k))=none:=by
 rw [List.findIdx?_eq_none_iff];intro x hx;simpa using (Cw key).1 h x hx
theorem J6 {l:List α} {k:κ} {x:α} (h:lk key l k=some x):∃ (i:Nat) (hi:i<l.length),l.findIdx? (fun x=>decide (key x=k))=some i∧l[i]=x:=by
 induction l with
 | nil=>cases h
 | cons y l ih=>
  rw [Rt] at h;by_cases e:key y=k
  ·rw [ZR e] at h;cases h;exact ⟨0,by simp,by simp [List.findIdx?_cons,e],rfl⟩
  ·rw [Z4 e] at h;obtain ⟨i,hi,h1,h2⟩:=ih h;exact ⟨i+1,by simpa using hi,by simp [List.findIdx?_cons,e,h1],by simpa using h2⟩
theorem KV:∀ {l:List α},NN key l→∀ {i:Nat} (hi:i<l.length) (k:κ),lk key (l.eraseIdx i) k=if k=key l[i] then none else lk key l k
 | [],_,i,hi,_=>by simp at hi
 | x :: l,hu,0,_,k=>by
  obtain ⟨h1,h2⟩:=(Pt key).1 hu;simp only [List.eraseIdx_cons_zero,List.getElem_cons_zero];rw [Rt];by_cases e:k=key x
  ·subst e;rw [ZR rfl,Cw];exact h1
  ·rw [Z4 e,Z4 (fun h=>e h.symm)]
 | x :: l,hu,i+1,hi,k=>by
  obtain ⟨h1,h2⟩:=(Pt key).1 hu;simp only [List.eraseIdx_cons_succ,List.getElem_cons_succ];rw [Rt,Rt,KV h2 (by simpa using hi) k];by_cases e:key x=k
  ·subst e;rw [ZR rfl,ZR rfl,Z4];exact fun e=>h1 _ (PA (by simpa using hi)) e.symm
  ·rw [Z4 e,Z4 e]
theorem xN:∀ {l:List α},NN key l→∀ {i:Nat} (hi:i<l.length) {y:α},key y=key l[i]→∀ k:κ,lk key (l.set i y) k=if k=key y then some y else lk key l k
 | [],_,i,hi,_,_,_=>by simp at hi
 | x :: l,hu,0,_,y,hy,k=>by
  simp only [List.set_cons_zero,List.getElem_cons_zero] at *
  rw [Rt,Rt,hy];by_cases e:key x=k
  ·subst e;rw [ZR rfl,ZR rfl]
  ·rw [Z4 e,Z4 (fun h=>e h.symm),Z4 e]
 | x :: l,hu,i+1,hi,y,hy,k=>by
  obtain ⟨h1,h2⟩:=(Pt key).1 hu;simp only [List.set_cons_succ,List.getElem_cons_succ] at *
  rw [Rt,Rt,xN h2 (by simpa using hi) hy k];by_cases e:key x=k
  ·subst e;rw [ZR rfl,ZR rfl,Z4];rw [hy];exact fun e=>h1 _ (PA (by simpa using hi)) e.symm
  ·rw [Z4 e,Z4 e]
end
end Go.Proofs.tX
