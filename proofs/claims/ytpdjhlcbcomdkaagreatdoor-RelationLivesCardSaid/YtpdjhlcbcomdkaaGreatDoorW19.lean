/- Part of a proof. -/
import Derived.Test.YtpdjhlcbcomdkaaGreatDoorW18
set_option linter.unusedVariables false
set_option linter.unusedSimpArgs false
set_option maxRecDepth 100000
set_option maxHeartbeats 16000000
open Go Go.Q Go.Qr
namespace Go.Proofs.Rm
open Go.RowKit Go.Proofs.Heap Go.Proofs.Mem
open Go.Proofs.Od (may key Xz)
theorem A0 (b:Nat) (T:ZN) (o:Op) (sa ba:Option Addr) (sc bl bc:Nat) (w:World) (hR:ZL w b T) (Vq:T.Small) (hT:Xz w) (U0:o.name.length<9223372036854775807) (S7:∀ x∈T.ZA,x.name.length<9223372036854775807)
  (Z0:XU w (.slice sa o.ZK.length sc) o.ZK.length (YO o.ZK)) (hw:T.X5 o=0) (V_:rX T o) (hk:o.kind=4) :
  Calls Tryz.prog 72 (Qi (some ⟨b,0,none⟩) (Jm o sa o.ZK.length sc ba bl bc)) w (U1 b T o w):=by
 have cw:=Wf b T o sa ba sc bl bc (w.alloc (.cells (Jm o sa o.ZK.length sc ba bl bc) 32)) (hR.below (Z' _ _)) (Utf8Tabs_below hT (Z' _ _)) U0 S7 (Z0.below (Z' _ _))
 have hb:=hR.lt
 have QX:=Zh Z0
 have HR:=Zh hR
 have MF:=Zh Vq
 have HF:Hid (T.Wm o=(([],T.Ke ⟨o.source,o.peer,o.ZK,false⟩),0)):=by show _=_;unfold ZN.Wm ZN.turns;rw [Z4 (by rw [hw];simp)];simp [hk]
 rw [hw] at cw
 have CW:=Zh cw
 have P8:=Zh V_
 obtain ⟨kd,p,n,la,nm,ss⟩:=o
 dsimp only at *
 subst hk
 have Ar:=Vq.Yk
 unfold small at Ar
 have Kn:=V_.ssl rfl
 obtain ⟨pv,sv,uv,Yp,XM⟩:=hR.VC
 obtain ⟨P,TF,U6,Db⟩:=XM.Yk
 have hPl:P.length≤100000:=by rw [←TF,Tx] at Ar;exact Ar
 have BQ:Hid (∀ u∈P.flatMap Zt,u.oneCell'=true):=PM fun x hx=>by obtain ⟨a,c,h,-,-⟩:=Db x hx;exact ⟨a,_,c,h⟩
 obtain ⟨a,cap,rfl,Pq,-,-,-⟩:=id U6
 have I4:Hid (∀ w',Below w w w'→Row w' 108 (.slice a P.length cap) P.length (P.flatMap Zt)∧(∀ x∈P,Row w' 66 x.2 x.1.ss.length (YO x.1.ss))∧XU w' (.slice sa ss.length sc) ss.length (YO ss)):=fun w' h=>⟨U6.below h,fun x hx=>(Db x hx).below h,Z0.below h⟩
 have BP:=Zh (SZ P)
 have jr:=Zh TF
 have I5:Hid ((YO ss).length=ss.length*1):=by show _=_;rw [V5,Nat.mul_one]
 have HC:Hid (∀ w',Below w w w'→w'.cell? ⟨b,1,none⟩=some (.slice a P.length cap)∧w'.frozen? ⟨b,1,none⟩=false):=fun w' h=>⟨(h.cell (p:=⟨b,1,none⟩) hb).trans (cell_of Yp 1),(h.frozen (p:=⟨b,1,none⟩) hb).trans (hR.YC 1)⟩
 clear U6 Db Yp XM TF Ar
 clear hR Vq hT U0 S7 Z0 cw hw V_
 have M3:=Zh (Z7 w (.cells (Qa 4 p n la (str nm) sa ss.length sc ba bl bc) 32))
 have Gi:=World.size_alloc w (.cells (Qa 4 p n la (str nm) sa ss.length sc ba bl bc) 32)
 have Ta:Hid (Below w w (w.alloc (.cells (Qa 4 p n la (str nm) sa ss.length sc ba bl bc) 32))):=Z' _ _
 go_enter Tryz.func72,Tryz.ntmps72
 go_wp2_with fail
 (with_reducible refine CW.o.mono ?_)
 rintro e w1 ⟨rfl,YZ⟩
 have VQ:Hid (Below w w w1):=Ta.o.trans (YZ.mono Zo)
 have R_:w.heap.size<w1.heap.size:=by have:=YZ.size;omega
 have Wb:=fun (j:Nat)=>(YZ.cell (p:=⟨w,j,none⟩) Uj).trans (cell_of M3.o j)
 have x0:w1.cell? ⟨w,0,none⟩=some (.int .i64 4):=Wb 0
 have x1:w1.cell? ⟨w,1,none⟩=some (.int .i64 p):=Wb 1
 have x2:w1.cell? ⟨w,2,none⟩=some (.int .i64 n):=Wb 2
 have x3:w1.cell? ⟨w,3,none⟩=some (.int .i64 la):=Wb 3
 have x4:w1.cell? ⟨w,4,none⟩=some (.string (str nm)):=Wb 4
 have x5:w1.cell? ⟨w,5,none⟩=some (.slice sa ss.length sc):=Wb 5
 have x6:w1.cell? ⟨w,6,none⟩=some (.slice ba bl bc):=Wb 6
 clear YZ Wb
 have Zz:Hid (∀ w',Below w1 w1 w'→w'.cell? ⟨b,1,none⟩=some (.slice a P.length cap)∧w'.frozen? ⟨b,1,none⟩=false):=fun w' h=>HC.o _ (VQ.o.trans (h.mono Zo))
 have SH:Hid (∀ w',Below w1 w1 w'→Row w' 108 (.slice a P.length cap) P.length (P.flatMap Zt)∧(∀ x∈P,Row w' 66 x.2 x.1.ss.length (YO x.1.ss))∧XU w' (.slice sa ss.length sc) ss.length (YO ss)):=fun w' h=>I4.o _ (VQ.o.trans (h.mono Zo))
 have jy:Hid (∀ w',Below w1 w1 w'→ZL w' b T∧Fr w (· = b) w w'):=fun w' h=>⟨HR.o.below (VQ.o.trans (h.mono Zo)),Fr.Z8 _ (VQ.o.trans (h.mono Zo))⟩
 have I7:Hid (∀ w',Fr w1 (· = b) w1 w'→w'.cell? ⟨w,1,none⟩=some (.int .i64 p)∧w'.cell? ⟨w,2,none⟩=some (.int .i64 n)∧w'.cell? ⟨w,5,none⟩=some (.slice sa ss.length sc)∧Fr w1 (· = b) w1 w'):=fun w' h=>⟨(h.cell (p:=⟨w,1,none⟩) R_ Uj).trans x1,(h.cell (p:=⟨w,2,none⟩) R_ Uj).trans x2,(h.cell (p:=⟨w,5,none⟩) R_ Uj).trans x5,h⟩
 have N9:Below w1 w1 w1:=YH _ _
 obtain ⟨k0,k1⟩:=Zz.o _ N9
 have hbw1:b<w1.heap.size:=by omega
 have ne1:=World.new_ne w1 ⟨b,1,none⟩ k0
 clear I4 HC
 go_upto_region 10 with fail
 refine Sd ?_
 refine wp_region_held_drew (S:=(fun w'=>w'.cell? ⟨w,1,none⟩=some (.int .i64 p)∧w'.cell? ⟨w,2,none⟩=some (.int .i64 n)∧w'.cell? ⟨w,5,none⟩=some (.slice sa ss.length sc)∧Fr w1 (· = b) w1 w')) ZB ?_ (fun _=>?_)
 ·exact Nu
 refine YA 0 (h:=YA 1 (h:=YA 2 (h:=YA 3 (h:=YA 6 (h:=YA 7 (h:=YA 8 (h:=YA 9 (h:=YA 10 (h:=YA 11 (h:=?_))))))))))
 refine wpAnyH_ready (rs:=[4]) ZB Zi ?_
 refine AllReadyH.cons (i:=4) rfl (fun K hK=>?_) ?_
 ·go_simp
  refine hK.out _ _ ?_ (fun _=>?_)
  ·exact Nu
  clear hK K
  try simp only [Z_.pt]
  refine wpAnyH_ready (rs:=[5]) ZB Zi ?_
  refine AllReadyH.cons (i:=5) rfl (fun K hK=>?_) ?_
  ·(first|(go_split_ands;refine Zp Zr (.const (.slice none 0 0)) (.tmp 46) 48 Zr w1.heap.size U2 (.slice none 0 0) 0 [] Zr (Ua _ _ _ _) (.slice a P.length cap) P.length (P.flatMap Zt) Zr ?_ BP.o BQ.o Zo Zo ?_ ?_;(exact (SH.o _ Wd).1);(exact Below.size Wd);intro v1 w2 Ui O5;have UF:=XH O5.o;have Yt:Below w1 w1 w2:=Heap.Below.call Wd (Zw _) UF;have r2:Below w2 w2 w2:=YH _ _;have rs2:Below ws ws w2:=Heap.Below.call Wd (Zw _) UF;obtain ⟨k2,k3⟩:=Zz.o _ Yt)|(go_split_ands;refine Zp Zr (.const (.slice none 0 0)) (.tmp 46) 48 Zr w1.heap.size U2 (.slice none 0 0) 0 [] Zr (Ua _ _ _ _) (.slice a P.length cap) P.length (P.flatMap Zt) Zr ?_ BP.o BQ.o Zo Zo ?_ ?_;(exact (SH.o _ Wd).1);(exact Below.size Wd);intro v1 w2 Ui O5;have UF:=XH O5.o;have Yt:Below w1 w1 w2:=Heap.Below.call Wd (Zw _) UF;have r2:Below w2 w2 w2:=YH _ _;  obtain ⟨k2,k3⟩:=Zz.o _ Yt)|(go_split_ands;refine RA Zr (.const (.slice none 0 0)) (.tmp 53) 29 Zr w1.heap.size Vu (.slice none 0 0) 0 [] Zr (Ua _ _ _ _) (.slice sa ss.length sc) ss.length (YO ss) Zr ?_ I5.o (Ru _) Zo Zo ?_ ?_;(exact (SH.o _ Wd).2.2);(exact Below.size Wd);intro vs ws DX mQ;have uZ:=XH mQ.o;have GR:Below w1 w1 ws:=Heap.Below.call Wd (Zw _) uZ;have rs:Below ws ws ws:=YH _ _;have r2s:Below w2 w2 ws:=Heap.Below.call Wd (Zw _) uZ;obtain ⟨k2,k3⟩:=Zz.o _ GR;have M4:=Zh (Row.Z6 DX.o);obtain ⟨BG,BH,hv⟩:=WI DX.o;rw [QP] at hv M4;rw [Jy] at M4;subst hv)|(go_split_ands;refine RA Zr (.const (.slice none 0 0)) (.tmp 53) 29 Zr w1.heap.size Vu (.slice none 0 0) 0 [] Zr (Ua _ _ _ _) (.slice sa ss.length sc) ss.length (YO ss) Zr ?_ I5.o (Ru _) Zo Zo ?_ ?_;(exact (SH.o _ Wd).2.2);(exact Below.size Wd);intro vs ws DX mQ;have uZ:=XH mQ.o;have GR:Below w1 w1 ws:=Heap.Below.call Wd (Zw _) uZ;have rs:Below ws ws ws:=YH _ _;  obtain ⟨k2,k3⟩:=Zz.o _ GR;have M4:=Zh (Row.Z6 DX.o);obtain ⟨BG,BH,hv⟩:=WI DX.o;rw [QP] at hv M4;rw [Jy] at M4;subst hv)|(go_split_ands;refine Zp Zr (.tmp 47) (.tmp 56) 48 Zr w1.heap.size U2 v1 (0+P.length) ([]++P.flatMap Zt) Zr ?_ _ 1 (Qp n p BG ss.length BH false) Zr ?_ Zr (LU ⟨n,p,ss,false⟩ BG ss.length BH) Zo Zo ?_ ?_;(exact Zy Ui.o Wd);(repeat (first|((with_reducible refine Tq _ _ 1 (Qp n p BG ss.length BH false) Zd _ ?_);rfl)|with_reducible refine Row.drew ?_|with_reducible refine Row.below ?_ UF));(exact Below.size Wd);intro v2 w3 PU KS;have Wp:Below w1 w1 w3:=Below.grown Wd KS.o (Below.size Wd) (YL Ui.o);have eH:=Row.grown (M4.o.below Wd) (Zy Ui.o Wd) KS.o Zd;obtain ⟨k6,k7⟩:=Zz.o _ Wp;obtain ⟨va,vc,hv⟩:=WI PU.o;subst hv))
   refine hK.out _ _ ?_ (fun _=>?_)
   ·exact Nu
   clear hK K
   try simp only [Z_.pt]
   refine wpAnyH_ready (rs:=[12]) ZB Zi ?_
   refine AllReadyH.cons (i:=12) rfl (fun K hK=>?_) ?_
   ·(first|(go_split_ands;refine Zp Zr (.const (.slice none 0 0)) (.tmp 46) 48 Zr w1.heap.size U2 (.slice none 0 0) 0 [] Zr (Ua _ _ _ _) (.slice a P.length cap) P.length (P.flatMap Zt) Zr ?_ BP.o BQ.o Zo Zo ?_ ?_;(exact (SH.o _ Wd).1);(exact Below.size Wd);intro v1 w2 Ui O5;have UF:=XH O5.o;have Yt:Below w1 w1 w2:=Heap.Below.call Wd (Zw _) UF;have r2:Below w2 w2 w2:=YH _ _;have rs2:Below ws ws w2:=Heap.Below.call Wd (Zw _) UF;obtain ⟨k2,k3⟩:=Zz.o _ Yt)|(go_split_ands;refine Zp Zr (.const (.slice none 0 0)) (.tmp 46) 48 Zr w1.heap.size U2 (.slice none 0 0) 0 [] Zr (Ua _ _ _ _) (.slice a P.length cap) P.length (P.flatMap Zt) Zr ?_ BP.o BQ.o Zo Zo ?_ ?_;(exact (SH.o _ Wd).1);(exact Below.size Wd);intro v1 w2 Ui O5;have UF:=XH O5.o;have Yt:Below w1 w1 w2:=Heap.Below.call Wd (Zw _) UF;have r2:Below w2 w2 w2:=YH _ _;  obtain ⟨k2,k3⟩:=Zz.o _ Yt)|(go_split_ands;refine RA Zr (.const (.slice none 0 0)) (.tmp 53) 29 Zr w1.heap.size Vu (.slice none 0 0) 0 [] Zr (Ua _ _ _ _) (.slice sa ss.length sc) ss.length (YO ss) Zr ?_ I5.o (Ru _) Zo Zo ?_ ?_;(exact (SH.o _ Wd).2.2);(exact Below.size Wd);intro vs ws DX mQ;have uZ:=XH mQ.o;have GR:Below w1 w1 ws:=Heap.Below.call Wd (Zw _) uZ;have rs:Below ws ws ws:=YH _ _;have r2s:Below w2 w2 ws:=Heap.Below.call Wd (Zw _) uZ;obtain ⟨k2,k3⟩:=Zz.o _ GR;have M4:=Zh (Row.Z6 DX.o);obtain ⟨BG,BH,hv⟩:=WI DX.o;rw [QP] at hv M4;rw [Jy] at M4;subst hv)|(go_split_ands;refine RA Zr (.const (.slice none 0 0)) (.tmp 53) 29 Zr w1.heap.size Vu (.slice none 0 0) 0 [] Zr (Ua _ _ _ _) (.slice sa ss.length sc) ss.length (YO ss) Zr ?_ I5.o (Ru _) Zo Zo ?_ ?_;(exact (SH.o _ Wd).2.2);(exact Below.size Wd);intro vs ws DX mQ;have uZ:=XH mQ.o;have GR:Below w1 w1 ws:=Heap.Below.call Wd (Zw _) uZ;have rs:Below ws ws ws:=YH _ _;  obtain ⟨k2,k3⟩:=Zz.o _ GR;have M4:=Zh (Row.Z6 DX.o);obtain ⟨BG,BH,hv⟩:=WI DX.o;rw [QP] at hv M4;rw [Jy] at M4;subst hv)|(go_split_ands;refine Zp Zr (.tmp 47) (.tmp 56) 48 Zr w1.heap.size U2 v1 (0+P.length) ([]++P.flatMap Zt) Zr ?_ _ 1 (Qp n p BG ss.length BH false) Zr ?_ Zr (LU ⟨n,p,ss,false⟩ BG ss.length BH) Zo Zo ?_ ?_;(exact Zy Ui.o Wd);(repeat (first|((with_reducible refine Tq _ _ 1 (Qp n p BG ss.length BH false) Zd _ ?_);rfl)|with_reducible refine Row.drew ?_|with_reducible refine Row.below ?_ UF));(exact Below.size Wd);intro v2 w3 PU KS;have Wp:Below w1 w1 w3:=Below.grown Wd KS.o (Below.size Wd) (YL Ui.o);have eH:=Row.grown (M4.o.below Wd) (Zy Ui.o Wd) KS.o Zd;obtain ⟨k6,k7⟩:=Zz.o _ Wp;obtain ⟨va,vc,hv⟩:=WI PU.o;subst hv))
    refine hK.out _ _ ?_ (fun _=>?_)
    ·exact Nu
    clear hK K
    try simp only [Z_.pt]
    refine YA 13 (h:=?_)
    refine wpAnyH_ready (rs:=[14]) ZB Zi ?_
    refine AllReadyH.cons (i:=14) rfl (fun K hK=>?_) ?_
    ·go_simp
     refine hK.out _ _ ?_ (fun _=>?_)
     ·exact Nu
     clear hK K
     try simp only [Z_.pt]
     refine wpAnyH_ready (rs:=[15]) ZB Zi ?_
     refine AllReadyH.cons (i:=15) rfl (fun K hK=>?_) ?_
     ·(first|(go_split_ands;refine Zp Zr (.const (.slice none 0 0)) (.tmp 46) 48 Zr w1.heap.size U2 (.slice none 0 0) 0 [] Zr (Ua _ _ _ _) (.slice a P.length cap) P.length (P.flatMap Zt) Zr ?_ BP.o BQ.o Zo Zo ?_ ?_;(exact (SH.o _ Wd).1);(exact Below.size Wd);intro v1 w2 Ui O5;have UF:=XH O5.o;have Yt:Below w1 w1 w2:=Heap.Below.call Wd (Zw _) UF;have r2:Below w2 w2 w2:=YH _ _;have rs2:Below ws ws w2:=Heap.Below.call Wd (Zw _) UF;obtain ⟨k2,k3⟩:=Zz.o _ Yt)|(go_split_ands;refine Zp Zr (.const (.slice none 0 0)) (.tmp 46) 48 Zr w1.heap.size U2 (.slice none 0 0) 0 [] Zr (Ua _ _ _ _) (.slice a P.length cap) P.length (P.flatMap Zt) Zr ?_ BP.o BQ.o Zo Zo ?_ ?_;(exact (SH.o _ Wd).1);(exact Below.size Wd);intro v1 w2 Ui O5;have UF:=XH O5.o;have Yt:Below w1 w1 w2:=Heap.Below.call Wd (Zw _) UF;have r2:Below w2 w2 w2:=YH _ _;  obtain ⟨k2,k3⟩:=Zz.o _ Yt)|(go_split_ands;refine RA Zr (.const (.slice none 0 0)) (.tmp 53) 29 Zr w1.heap.size Vu (.slice none 0 0) 0 [] Zr (Ua _ _ _ _) (.slice sa ss.length sc) ss.length (YO ss) Zr ?_ I5.o (Ru _) Zo Zo ?_ ?_;(exact (SH.o _ Wd).2.2);(exact Below.size Wd);intro vs ws DX mQ;have uZ:=XH mQ.o;have GR:Below w1 w1 ws:=Heap.Below.call Wd (Zw _) uZ;have rs:Below ws ws ws:=YH _ _;have r2s:Below w2 w2 ws:=Heap.Below.call Wd (Zw _) uZ;obtain ⟨k2,k3⟩:=Zz.o _ GR;have M4:=Zh (Row.Z6 DX.o);obtain ⟨BG,BH,hv⟩:=WI DX.o;rw [QP] at hv M4;rw [Jy] at M4;subst hv)|(go_split_ands;refine RA Zr (.const (.slice none 0 0)) (.tmp 53) 29 Zr w1.heap.size Vu (.slice none 0 0) 0 [] Zr (Ua _ _ _ _) (.slice sa ss.length sc) ss.length (YO ss) Zr ?_ I5.o (Ru _) Zo Zo ?_ ?_;(exact (SH.o _ Wd).2.2);(exact Below.size Wd);intro vs ws DX mQ;have uZ:=XH mQ.o;have GR:Below w1 w1 ws:=Heap.Below.call Wd (Zw _) uZ;have rs:Below ws ws ws:=YH _ _;  obtain ⟨k2,k3⟩:=Zz.o _ GR;have M4:=Zh (Row.Z6 DX.o);obtain ⟨BG,BH,hv⟩:=WI DX.o;rw [QP] at hv M4;rw [Jy] at M4;subst hv)|(go_split_ands;refine Zp Zr (.tmp 47) (.tmp 56) 48 Zr w1.heap.size U2 v1 (0+P.length) ([]++P.flatMap Zt) Zr ?_ _ 1 (Qp n p BG ss.length BH false) Zr ?_ Zr (LU ⟨n,p,ss,false⟩ BG ss.length BH) Zo Zo ?_ ?_;(exact Zy Ui.o Wd);(repeat (first|((with_reducible refine Tq _ _ 1 (Qp n p BG ss.length BH false) Zd _ ?_);rfl)|with_reducible refine Row.drew ?_|with_reducible refine Row.below ?_ UF));(exact Below.size Wd);intro v2 w3 PU KS;have Wp:Below w1 w1 w3:=Below.grown Wd KS.o (Below.size Wd) (YL Ui.o);have eH:=Row.grown (M4.o.below Wd) (Zy Ui.o Wd) KS.o Zd;obtain ⟨k6,k7⟩:=Zz.o _ Wp;obtain ⟨va,vc,hv⟩:=WI PU.o;subst hv))
      refine hK.out _ _ ?_ (fun _=>?_)
      ·exact Nu
      clear hK K
      try simp only [Z_.pt]
      refine YA 16 (h:=YA 17 (h:=?_))
      refine wpAnyH_ready (rs:=[18]) ZB Zi ?_
      refine AllReadyH.cons (i:=18) rfl (fun K hK=>?_) ?_
      ·go_simp
       refine hK.out _ _ ?_ (fun _=>?_)
       ·exact Nu
       clear hK K
       try simp only [Z_.pt]
       refine wpAnyH_done ZB ?_ _
       refine QY ?_
       go_wp2
       go_ret2
       obtain ⟨FA,iy⟩:=jy.o _ Wp
       have Z0:=Row.Z6 PU.o
       rw [Jy,QP] at Z0
       have Ap:=FA.IB (P++[(⟨n,p,ss,false⟩,.slice BG ss.length BH)]) (l:=T.Yk++[⟨n,p,ss,false⟩]) (by rw [N7,jr.o];rfl) (by rw [show (P++[((⟨n,p,ss,false⟩:Wl),Value.slice BG ss.length BH)]).flatMap Zt=P.flatMap Zt++[.int .i64 n,.int .i64 p,.slice BG ss.length BH,.bool false] by rw [O_];rfl,show (P++[((⟨n,p,ss,false⟩:Wl),Value.slice BG ss.length BH)]).length=P.length+1 by simp];exact Z0) (fun x hx=>by
        rcases D5.1 hx with hx|hx
        ·exact (SH.o _ Wp).2.1 x hx
        ·rw [Kc] at hx;subst hx;exact eH)
       exact Vo HF (Row.nil _ _) Ap (iy.setAt _ _)
      exact AllReadyH.nil
     exact AllReadyH.nil
    exact AllReadyH.nil
   exact AllReadyH.nil
  exact AllReadyH.nil
 exact AllReadyH.nil
theorem FN (b:Nat) (T:ZN) (o:Op) (sa ba:Option Addr) (sc bl bc:Nat) (w:World) (hR:ZL w b T) (Vq:T.Small) (hT:Xz w) (U0:o.name.length<9223372036854775807) (S7:∀ x∈T.ZA,x.name.length<9223372036854775807)
  (Z0:XU w (.slice sa o.ZK.length sc) o.ZK.length (YO o.ZK)) (hw:T.X5 o=0) (V_:rX T o) (hk:o.kind=6) :
  Calls Tryz.prog 72 (Qi (some ⟨b,0,none⟩) (Jm o sa o.ZK.length sc ba bl bc)) w (U1 b T o w):=by
 have cw:=Wf b T o sa ba sc bl bc (w.alloc (.cells (Jm o sa o.ZK.length sc ba bl bc) 32)) (hR.below (Z' _ _)) (Utf8Tabs_below hT (Z' _ _)) U0 S7 (Z0.below (Z' _ _))
 have hb:=hR.lt
 have QX:=Zh Z0
 have HR:=Zh hR
 have MF:=Zh Vq
 have HF:Hid (T.Wm o=(T.subscribe o,0)):=by show _=_;unfold ZN.Wm ZN.turns;rw [Z4 (by rw [hw];simp)];simp [hk]
 rw [hw] at cw
 have CW:=Zh cw
 have P8:=Zh V_
 obtain ⟨kd,p,n,la,nm,ss⟩:=o
 dsimp only at *
 subst hk
 have Ar:=Vq.Z5
 unfold small at Ar
 obtain ⟨pv,sv,uv,Yp,XM⟩:=hR.VC
 have U6:=XM.Z5
 obtain ⟨a,cap,rfl,Pq,-,-,-⟩:=id U6
 have I4:Hid (∀ w',Below w w w'→Row w' 105 (.slice a T.Z5.length cap) T.Z5.length (T.Z5.flatMap Zv)):=fun w' h=>U6.below h
 have BP:=Zh (TH T.Z5)
 have HC:Hid (∀ w',Below w w w'→w'.cell? ⟨b,2,none⟩=some (.slice a T.Z5.length cap)∧w'.frozen? ⟨b,2,none⟩=false):=fun w' h=>⟨(h.cell (p:=⟨b,2,none⟩) hb).trans (cell_of Yp 2),(h.frozen (p:=⟨b,2,none⟩) hb).trans (hR.YC 2)⟩
 have ll:0≤(T.Vm ⟨p,n,la,false⟩).YU n:=V_.src Zi
 have Fe:=Zh (fun (w1:World) (h:ZL w1 b (T.Vm ⟨p,n,la,false⟩))=>Ii b (T.Vm ⟨p,n,la,false⟩) ⟨p,n,la,false⟩ w1 h ll (V_.ZF rfl))
 have HSU:Hid (T.subscribe ⟨6,p,n,la,nm,ss⟩=(⟨1,p,n,la,0⟩ :: (if ((T.Vm ⟨p,n,la,false⟩).Wc n).ZG then [⟨6,p,n,0,0⟩] else [(T.Vm ⟨p,n,la,false⟩).ask ⟨p,n,la,false⟩]),T.Vm ⟨p,n,la,false⟩)):=rfl
 obtain ⟨m,hm,Pp,-,-⟩:=XL ll
 have Pp:(T.Vm ⟨p,n,la,false⟩).YU n=m:=Pp
 have CS:Hid (∀ w1,ZL w1 b (T.Vm ⟨p,n,la,false⟩)→Calls Tryz.prog 49 (Qj (some ⟨b,0,none⟩) n) w1 fun e w'=>e = .returned (.int .i64 m)∧Below w1 w1 w'):=fun w1 h=>by
  have h1:=V6 b _ n w1 h
  rw [Pp] at h1
  exact h1
 have qX:Hid (((T.Vm ⟨p,n,la,false⟩).Wc n).ZG=(T.Vm ⟨p,n,la,false⟩).Yk[m].ZG):=by
  show _=_
  unfold ZN.Wc
  rw [Pp,Wv,Rw,U7 hm];rfl
 clear U6 Yp XM ll Pp
 clear hR Vq hT U0 S7 Z0 cw hw V_
 have M3:=Zh (Z7 w (.cells (Qa 6 p n la (str nm) sa ss.length sc ba bl bc) 32))
 have Gi:=World.size_alloc w (.cells (Qa 6 p n la (str nm) sa ss.length sc ba bl bc) 32)
 have Ta:Hid (Below w w (w.alloc (.cells (Qa 6 p n la (str nm) sa ss.length sc ba bl bc) 32))):=Z' _ _
 go_enter Tryz.func72,Tryz.ntmps72
 go_wp2_with fail
 (with_reducible refine CW.o.mono ?_)
 rintro e w1 ⟨rfl,YZ⟩
 have VQ:Hid (Below w w w1):=Ta.o.trans (YZ.mono Zo)
 have R_:w.heap.size<w1.heap.size:=by have:=YZ.size;omega
 have Wb:=fun (j:Nat)=>(YZ.cell (p:=⟨w,j,none⟩) Uj).trans (cell_of M3.o j)
 have x0:w1.cell? ⟨w,0,none⟩=some (.int .i64 6):=Wb 0
 have x1:w1.cell? ⟨w,1,none⟩=some (.int .i64 p):=Wb 1
 have x2:w1.cell? ⟨w,2,none⟩=some (.int .i64 n):=Wb 2
 have x3:w1.cell? ⟨w,3,none⟩=some (.int .i64 la):=Wb 3
 have x4:w1.cell? ⟨w,4,none⟩=some (.string (str nm)):=Wb 4
 have x5:w1.cell? ⟨w,5,none⟩=some (.slice sa ss.length sc):=Wb 5
 have x6:w1.cell? ⟨w,6,none⟩=some (.slice ba bl bc):=Wb 6
 clear YZ Wb
 have Bw:=size_alloc w1 (.cells (Qk p n la false) 105)
 have J9:=Z7 w1 (.cells (Qk p n la false) 105)
 have HV1:=Z' w1 (.cells (Qk p n la false) 105)
 have z1:=(HV1.cell (p:=⟨w,1,none⟩) R_).trans x1
 have z2:=(HV1.cell (p:=⟨w,2,none⟩) R_).trans x2
 have z3:=(HV1.cell (p:=⟨w,3,none⟩) R_).trans x3
 go_upto_region 15 with fail
 clear x0 x1 x2 x3 x4 x5 x6
 generalize w1.alloc (.cells (Qk p n la false) 105)=V at *
 have DV:Hid (Below w w V):=VQ.o.trans (HV1.mono Zo)
 have hVs:w.heap.size<V.heap.size:=by omega
 have kK:w1.heap.size<V.heap.size:=by omega
 have hb1n:¬b=w1.heap.size:=by have:=VQ.o.size;omega
 have hb1n':¬w1.heap.size=b:=by omega
 have Zz:Hid (∀ w',Below V V w'→w'.cell? ⟨b,2,none⟩=some (.slice a T.Z5.length cap)∧w'.frozen? ⟨b,2,none⟩=false):=fun w' h=>HC.o _ (DV.o.trans (h.mono Zo))
 have SH:Hid (∀ w',Below V V w'→Row w' 105 (.slice a T.Z5.length cap) T.Z5.length (T.Z5.flatMap Zv)):=fun w' h=>I4.o _ (DV.o.trans (h.mono Zo))
 have jy:Hid (∀ w',Below V V w'→ZL w' b T∧Fr w (· = b) w w'):=fun w' h=>⟨HR.o.below (DV.o.trans (h.mono Zo)),Fr.Z8 _ (DV.o.trans (h.mono Zo))⟩
 have I7:Hid (∀ w',Fr V (· = b) V w'→w'.cell? ⟨w1,0,none⟩=some (.int .i64 p)∧w'.cell? ⟨w1,1,none⟩=some (.int .i64 n)∧w'.cell? ⟨w1,2,none⟩=some (.int .i64 la)∧w'.cell? ⟨w1,3,none⟩=some (.bool false)∧Fr V (· = b) V w'):=fun w' h=>⟨(h.cell (p:=⟨w1,0,none⟩) kK Uj).trans (cell_of J9 0),(h.cell (p:=⟨w1,1,none⟩) kK Uj).trans (cell_of J9 1),(h.cell (p:=⟨w1,2,none⟩) kK Uj).trans (cell_of J9 2),(h.cell (p:=⟨w1,3,none⟩) kK Uj).trans (cell_of J9 3),h⟩
 have fW:Hid (∀ w',Fr V (· = b) V w'→w'.cell? ⟨w,1,none⟩=some (.int .i64 p)∧w'.cell? ⟨w,2,none⟩=some (.int .i64 n)∧w'.cell? ⟨w,3,none⟩=some (.int .i64 la)):=fun w' h=>⟨(h.cell (p:=⟨w,1,none⟩) hVs Uj).trans z1,(h.cell (p:=⟨w,2,none⟩) hVs Uj).trans z2,(h.cell (p:=⟨w,3,none⟩) hVs Uj).trans z3⟩
 have N9:Below V V V:=YH _ _
 obtain ⟨k0,k1⟩:=Zz.o _ N9
 have hbw1:b<V.heap.size:=by omega
 have ne1:=World.new_ne V ⟨b,2,none⟩ k0
 clear I4 HC HV1 z1 z2 z3 J9 Bw
 go_cut [] (fun wx=>ZL wx b (T.Vm ⟨p,n,la,false⟩)∧Fr w (· = b) w wx∧Fr V (· = b) V wx)
 case first=>
  refine Sd ?_
  refine wp_region_held_drew (S:=(fun w'=>w'.cell? ⟨w1,0,none⟩=some (.int .i64 p)∧w'.cell? ⟨w1,1,none⟩=some (.int .i64 n)∧w'.cell? ⟨w1,2,none⟩=some (.int .i64 la)∧w'.cell? ⟨w1,3,none⟩=some (.bool false)∧Fr V (· = b) V w')) ZB ?_ (fun _=>?_)
  ·exact Nu
  refine YA 0 (h:=YA 1 (h:=YA 2 (h:=YA 3 (h:=YA 6 (h:=?_)))))
  refine wpAnyH_ready (rs:=[4,7]) ZB Zi ?_
  refine AllReadyH.cons (i:=4) rfl (fun K hK=>?_) ?_
  ·go_simp
   refine hK.out _ _ ?_ (fun _=>?_)
   ·exact Nu
   clear hK K
   try simp only [Z_.pt]
   refine wpAnyH_ready (rs:=[5,7]) ZB Zi ?_
   refine AllReadyH.cons (i:=5) rfl (fun K hK=>?_) ?_
   ·(first|(go_split_ands;refine Zp Zr (.const (.slice none 0 0)) (.tmp 79) 49 Zr V.heap.size Ur (.slice none 0 0) 0 [] Zr (Ua _ _ _ _) (.slice a T.Z5.length cap) T.Z5.length (T.Z5.flatMap Zv) Zr ?_ BP.o (TI _) Zo Zo ?_ ?_;(exact SH.o _ Wd);(exact Below.size Wd);intro v1 w2 Ui O5;have UF:=XH O5.o;have Yt:Below V V w2:=Heap.Below.call Wd (Zw _) UF;have r2:Below w2 w2 w2:=YH _ _;obtain ⟨k2,k3⟩:=Zz.o _ Yt)|(go_split_ands;refine Zp Zr (.tmp 80) (.tmp 82) 49 Zr V.heap.size Ur v1 (0+T.Z5.length) ([]++T.Z5.flatMap Zv) Zr ?_ _ 1 (Qk p n la false) Zr ?_ Zr (LW ⟨p,n,la,false⟩) Zo Zo ?_ ?_;(exact Zy Ui.o Wd);(repeat (first|((with_reducible refine Tq _ _ 1 (Qk p n la false) Zd _ ?_);rfl)|with_reducible refine Row.drew ?_|with_reducible refine Row.below ?_ UF));(exact Below.size Wd);intro v2 w3 PU KS;have Wp:Below V V w3:=Below.grown Wd KS.o (Below.size Wd) (YL Ui.o);obtain ⟨k6,k7⟩:=Zz.o _ Wp;obtain ⟨va,vc,hv⟩:=WI PU.o;subst hv))
    refine hK.out _ _ ?_ (fun _=>?_)
    ·exact Nu
    clear hK K
    try simp only [Z_.pt]
    refine wpAnyH_ready (rs:=[7]) ZB Zi ?_
    refine AllReadyH.cons (i:=7) rfl (fun K hK=>?_) ?_
    ·go_simp
     exact Yx7
    exact AllReadyH.nil
   refine AllReadyH.cons (i:=7) rfl (fun K hK=>?_) ?_
   ·exact Yx28
   exact AllReadyH.nil
  refine AllReadyH.cons (i:=7) rfl (fun K hK=>?_) ?_
  ·go_simp
   refine hK.out _ _ ?_ (fun _=>?_)
   ·exact Nu
   clear hK K
   try simp only [Z_.pt]
   refine wpAnyH_ready (rs:=[4]) ZB Zi ?_
   refine AllReadyH.cons (i:=4) rfl (fun K hK=>?_) ?_
   ·exact Yx28
   exact AllReadyH.nil
  exact AllReadyH.nil
 case rest=>
  obtain ⟨U3,Wx,hfv⟩:=hcut
  obtain ⟨W5,rfl⟩:∃ W5:World,W5=wc:=⟨_,rfl⟩
  obtain ⟨y0,y1,y2,y3,-⟩:=I7.o _ hfv
  obtain ⟨x1,x2,x3⟩:=fW.o _ hfv
  have bh:=hfv.size
  have fV:=Zh U3
  have HFR5:=Zh Wx
  clear N9 k0 k1 ne1 U3 Wx hfv
  have UF:=Z' W5 (.cells (Qh 1 p n la 0) 158)
  have ht:=Z7 W5 (.cells (Qh 1 p n la 0) 158)
  have oU:=fV.o.alloc (.cells (Qh 1 p n la 0) 158)
  have hU:=HFR5.o.alloc Zo (.cells (Qh 1 p n la 0) 158)
  have lB:=World.size_alloc W5 (.cells (Qh 1 p n la 0) 158)
  have iW:=(UF.cell (p:=⟨w1,0,none⟩) Uj).trans y0
  have y1':=(UF.cell (p:=⟨w1,1,none⟩) Uj).trans y1
  have lR:=(UF.cell (p:=⟨w1,2,none⟩) Uj).trans y2
  have iX:=(UF.cell (p:=⟨w1,3,none⟩) Uj).trans y3
  have yp':=(UF.cell (p:=⟨w,1,none⟩) Uj).trans x1
  have bz:=(UF.cell (p:=⟨w,2,none⟩) Uj).trans x2
  go_upto_region 17 with fail
  generalize W5.alloc (.cells (Qh 1 p n la 0) 158)=W6 at *
  have zy:=Zh oU
  have fO:=Zh hU
  obtain ⟨pv6,sv6,uv6,NA,JP⟩:=oU.VC
  obtain ⟨P,TF,U6,Db⟩:=JP.Yk
  have po:m<P.length:=by rw [←TF,Tx] at hm;exact hm
  have h_:=U6.len
  have s1:=cell_of NA 1
  obtain ⟨pa,pc,rfl,-,-⟩:=id U6
  obtain ⟨gs,Rj,e4,Tz⟩:=SF U6 Zo
  subst e4
  obtain ⟨-,-,-,s4⟩:=Tz m P[m] (U7 po)
  have ib:P[m].1.ZG=(T.Vm ⟨p,n,la,false⟩).Yk[m].ZG:=by
   have:(P.map Prod.fst)[m]?=(T.Vm ⟨p,n,la,false⟩).Yk[m]?:=by rw [TF]
   rw [List.getElem?_map,U7 po,U7 hm] at this
   simp at this;rw [this]
  rw [ib] at s4
  have dW:gs<W6.heap.size:=by
   exact cA
  have iH:(m:Int)<(P.length:Int):=Ou.2 po
  have td:(0:Int)≤(m:Int):=rq m
  have Ep:b<W6.heap.size:=by omega
  have u_:w1.heap.size<W6.heap.size:=by omega
  have En:W5.heap.size<W6.heap.size:=by omega
  have eU:w.heap.size<W6.heap.size:=by omega
  have GY:w.heap.size≤W6.heap.size:=by omega
  clear NA JP TF U6 Db Tz ib oU hU lB
  generalize P.length=NP at *
  generalize (T.Vm ⟨p,n,la,false⟩).Yk[m].ZG=mu at *
  have U5:Hid (∀ w',Below W6 W6 w'→(w'.cell? ⟨w1,0,none⟩=some (.int .i64 p)∧w'.cell? ⟨w1,1,none⟩=some (.int .i64 n)∧w'.cell? ⟨w1,2,none⟩=some (.int .i64 la)∧w'.cell? ⟨w1,3,none⟩=some (.bool false))∧(w'.cell? ⟨W5,0,none⟩=some (.int .i64 1)∧w'.cell? ⟨W5,1,none⟩=some (.int .i64 p)∧w'.cell? ⟨W5,2,none⟩=some (.int .i64 n)∧w'.cell? ⟨W5,3,none⟩=some (.int .i64 la)∧w'.cell? ⟨W5,4,none⟩=some (.int .u32 0))∧w'.cell? ⟨w,1,none⟩=some (.int .i64 p)∧w'.cell? ⟨w,2,none⟩=some (.int .i64 n)∧w'.cell? ⟨b,1,none⟩=some (.slice (some ⟨gs,Rj,none⟩) NP pc)∧w'.cell? ⟨gs,Rj+m*4+3,none⟩=some (.bool mu)∧Below W6 W6 w'):=fun w' h=>
   ⟨⟨(h.cell (p:=⟨w1,0,none⟩) u_).trans iW,(h.cell (p:=⟨w1,1,none⟩) u_).trans y1',(h.cell (p:=⟨w1,2,none⟩) u_).trans lR,(h.cell (p:=⟨w1,3,none⟩) u_).trans iX⟩,⟨(h.cell (p:=⟨W5,0,none⟩) En).trans (cell_of ht 0),(h.cell (p:=⟨W5,1,none⟩) En).trans (cell_of ht 1),(h.cell (p:=⟨W5,2,none⟩) En).trans (cell_of ht 2),(h.cell (p:=⟨W5,3,none⟩) En).trans (cell_of ht 3),(h.cell (p:=⟨W5,4,none⟩) En).trans (cell_of ht 4)⟩,(h.cell (p:=⟨w,1,none⟩) eU).trans yp',(h.cell (p:=⟨w,2,none⟩) eU).trans bz,(h.cell (p:=⟨b,1,none⟩) Ep).trans s1,(h.cell (p:=⟨gs,Rj+m*4+3,none⟩) dW).trans s4,h⟩
  clear ht y0 y1 y2 y3 x1 x2 x3 iW y1' lR iX bz yp' s1 s4 UF fV HFR5 Zz I7 fW SH jy HR MF VQ DV BP
  generalize T.Vm ⟨p,n,la,false⟩=T1 at *
  generalize T1.ask ⟨p,n,la,false⟩=TA at *
  have N9:Below W6 W6 W6:=YH _ _
  go_cut [103] (fun s103 wx=>s103 = .bool mu∧Below W6 W6 wx)
  case first=>
   go_region_held3 (fun w'=>(w'.cell? ⟨w1,0,none⟩=some (.int .i64 p)∧w'.cell? ⟨w1,1,none⟩=some (.int .i64 n)∧w'.cell? ⟨w1,2,none⟩=some (.int .i64 la)∧w'.cell? ⟨w1,3,none⟩=some (.bool false))∧(w'.cell? ⟨W5,0,none⟩=some (.int .i64 1)∧w'.cell? ⟨W5,1,none⟩=some (.int .i64 p)∧w'.cell? ⟨W5,2,none⟩=some (.int .i64 n)∧w'.cell? ⟨W5,3,none⟩=some (.int .i64 la)∧w'.cell? ⟨W5,4,none⟩=some (.int .u32 0))∧w'.cell? ⟨w,1,none⟩=some (.int .i64 p)∧w'.cell? ⟨w,2,none⟩=some (.int .i64 n)∧w'.cell? ⟨b,1,none⟩=some (.slice (some ⟨gs,Rj,none⟩) NP pc)∧w'.cell? ⟨gs,Rj+m*4+3,none⟩=some (.bool mu)∧Below W6 W6 w') (first|(exact U5.o _ WT)|(exact U5.o _ (Below.drew WT))|go_keep) (first|(go_at_call 49;go_split_ands;(with_reducible refine Calls.mono (CS.o _ (zy.o.below WT)) ?_);rintro e V2 ⟨rfl,NY⟩;have Nz:=Heap.Below.call WT (Zw _) NY)|fail)
   all_goals (go_wp2_with fail;go_meet;exact ⟨rfl,by first|with_reducible assumption|exact Below.drew WT⟩)
  case rest=>
   clear N9
   obtain ⟨rfl,Oa⟩:=hcut
   obtain ⟨W7,rfl⟩:∃ W7:World,W7=wc:=⟨_,rfl⟩
   cases mu
   ·have qZ:Hid (T.subscribe ⟨6,p,n,la,nm,ss⟩=([⟨1,p,n,la,0⟩,TA],T1)):=by show _=_;rw [HSU.o,qX.o];rfl
    go_upto_region 19 with fail
    go_region_held3 (fun w'=>(w'.cell? ⟨w1,0,none⟩=some (.int .i64 p)∧w'.cell? ⟨w1,1,none⟩=some (.int .i64 n)∧w'.cell? ⟨w1,2,none⟩=some (.int .i64 la)∧w'.cell? ⟨w1,3,none⟩=some (.bool false))∧(w'.cell? ⟨W5,0,none⟩=some (.int .i64 1)∧w'.cell? ⟨W5,1,none⟩=some (.int .i64 p)∧w'.cell? ⟨W5,2,none⟩=some (.int .i64 n)∧w'.cell? ⟨W5,3,none⟩=some (.int .i64 la)∧w'.cell? ⟨W5,4,none⟩=some (.int .u32 0))∧w'.cell? ⟨w,1,none⟩=some (.int .i64 p)∧w'.cell? ⟨w,2,none⟩=some (.int .i64 n)∧w'.cell? ⟨b,1,none⟩=some (.slice (some ⟨gs,Rj,none⟩) NP pc)∧w'.cell? ⟨gs,Rj+m*4+3,none⟩=some (.bool false)∧Below W6 W6 w') (first|(exact U5.o _ WT)|(exact U5.o _ (Below.drew WT))|(exact U5.o _ (Heap.Below.alloc' WT (Zw _) _))|(exact U5.o _ (Heap.Below.alloc' (Below.drew WT) (Zw _) _))|go_keep) (first|(go_at_call 99;go_split_ands;(with_reducible refine Calls.mono (Fe.o _ (zy.o.below WT)) ?_);rintro e V3 ⟨rfl,NY⟩;have Fx:=Heap.Below.call WT (Zw _) NY;unfold V8)|fail)
    go_wp2
    go_ret2
    rw [qZ.o] at HF
    exact Vo HF (Yu _ _ 2 _ ([⟨1,p,n,la,0⟩,TA].flatMap Z9) Zd rfl) (zy.o.below (Fx.alloc Fx.size _)) (fO.o.trans ((Fr.Z8 _ (Fx.alloc Fx.size _)).mono GY (fun _ _ h=>h)))
   ·have qZ:Hid (T.subscribe ⟨6,p,n,la,nm,ss⟩=([⟨1,p,n,la,0⟩,⟨6,p,n,0,0⟩],T1)):=by show _=_;rw [HSU.o,qX.o];rfl
    obtain ⟨-,⟨t0,t1,t2,t3,t4⟩,q1,q2,-⟩:=U5.o _ Oa
    have hzt:W5.heap.size<W7.heap.size:=Pb En Oa.size
    have hzw:w.heap.size<W7.heap.size:=Pb eU Oa.size
    go_wp2
    go_ret2
    rw [qZ.o] at HF
    exact Vo HF (Yu _ _ 2 _ ([⟨1,p,n,la,0⟩,⟨6,p,n,0,0⟩].flatMap Z9) Zd rfl) ((zy.o.below Oa).alloc _) ((fO.o.trans ((Fr.Z8 _ Oa).mono GY (fun _ _ h=>h))).alloc (PW GY Oa.size) _)
end Go.Proofs.Rm
namespace Go.Proofs.Rm
open Go.RowKit Go.Proofs.Heap Go.Proofs.Mem
open Go.Proofs.Od (may key Xz)
theorem lM (b:Nat) (T:ZN) (o:Op) (sa ba:Option Addr) (sc bl bc:Nat) (w:World) (hR:ZL w b T) (Vq:T.Small) (hT:Xz w) (U0:o.name.length<9223372036854775807) (S7:∀ x∈T.ZA,x.name.length<9223372036854775807)
  (Z0:XU w (.slice sa o.ZK.length sc) o.ZK.length (YO o.ZK)) (V_:T.X5 o=0→rX T o) :
  Calls Tryz.prog 72 (Qi (some ⟨b,0,none⟩) (Jm o sa o.ZK.length sc ba bl bc)) w (U1 b T o w):=by
 by_cases hw:T.X5 o=0
 ·have ok:=V_ hw
  have hk:=ok.kind
  have:o.kind=2∨o.kind=3∨o.kind=4∨o.kind=5∨o.kind=6∨o.kind=7∨o.kind=8∨o.kind=9∨o.kind=10∨o.kind=11∨o.kind=12:=by omega
  rcases this with h|h|h|h|h|h|h|h|h|h|h
  ·exact qA b T o sa ba sc bl bc w hR Vq hT U0 S7 Z0 hw ok h
  ·exact tY b T o sa ba sc bl bc w hR Vq hT U0 S7 Z0 hw ok h
  ·exact A0 b T o sa ba sc bl bc w hR Vq hT U0 S7 Z0 hw ok h
  ·exact FO b T o sa ba sc bl bc w hR Vq hT U0 S7 Z0 hw ok h
  ·exact FN b T o sa ba sc bl bc w hR Vq hT U0 S7 Z0 hw ok h
  ·exact IZ b T o sa ba sc bl bc w hR Vq hT U0 S7 Z0 hw ok h
  ·exact qB b T o sa ba sc bl bc w hR Vq hT U0 S7 Z0 hw ok h
  ·exact xS b T o sa ba sc bl bc w hR Vq hT U0 S7 Z0 hw ok h
  ·exact tZ b T o sa ba sc bl bc w hR Vq hT U0 S7 Z0 hw ok h
  ·exact xR b T o sa ba sc bl bc w hR Vq hT U0 S7 Z0 hw ok h
  ·exact qC b T o sa ba sc bl bc w hR Vq hT U0 S7 Z0 hw ok h
 ·exact lN b T o sa ba sc bl bc w hR Vq hT U0 S7 Z0 hw
end Go.Proofs.Rm
namespace Go.Proofs.uy
section
variable {α κ:Type} (key:α→κ)
def N1 (l:List α):Prop:=(l.map key).Nodup
theorem PO {x:α} {l:List α}:N1 key (x :: l)↔(∀ y∈l,key y≠key x)∧N1 key l:=by
 unfold N1
 rw [List.map_cons,List.nodup_cons]
 constructor
 ·rintro ⟨h1,h2⟩
  exact ⟨fun y hy e=>h1 (by rw [←e];exact List.mem_map_of_mem hy),h2⟩
 ·rintro ⟨h1,h2⟩
  refine ⟨fun h=>?_,h2⟩
  obtain ⟨y,hy,e⟩:=wD.1 h
  exact h1 y hy e
theorem Mi {l:List α} (hu:N1 key l) (i:Nat):N1 key (l.eraseIdx i):=
 List.Nodup.sublist ((List.eraseIdx_sublist l i).map key) hu
theorem Bc {l:List α} (hu:N1 key l) {i:Nat} (hi:i<l.length) {y:α} (hy:key y=key l[i]):N1 key (l.set i y):=by
 unfold N1 at *
 have:(l.set i y).map key=l.map key:=by
  rw [List.map_set,hy]
  have:key l[i]=(l.map key)[i]'(by simpa using hi):=by simp
  rw [this,List.set_getElem_self]
 rw [this];exact hu
end
section
variable {α κ:Type} [DecidableEq κ] (key:α→κ)
def lk (l:List α) (k:κ):Option α:=l.find? fun x=>decide (key x=k)
theorem RM (x:α) (l:List α) (k:κ):lk key (x :: l) k=if key x=k then some x else lk key l k:=by
 unfold lk
 by_cases h:key x=k <;> simp [h]
theorem Kq (l:List α) (x:α) (k:κ):lk key (l++[x]) k=(lk key l k).or (if key x=k then some x else none):=by
 unfold lk
 rw [List.find?_append]
 by_cases h:key x=k <;> simp [h]
theorem Dj {l:List α} {k:κ}:lk key l k=none↔∀ x∈l,key x≠k:=by
 unfold lk
 rw [List.find?_eq_none]
 simp
theorem Kr {l:List α} (hu:N1 key l) {x:α} (hx:x∈l):lk key l (key x)=some x:=by
 induction l with
 | nil=>cases hx
 | cons y l ih=>
  rw [RM]
  obtain ⟨h1,h2⟩:=(PO key).1 hu
  rcases Mg.1 hx with rfl|hx
  ·rw [ZQ rfl]
  ·rw [Z4 (fun e=>h1 x hx e.symm)];exact ih h2 hx
theorem NR {l:List α} {x:α} (hu:N1 key l) (h:lk key l (key x)=none):N1 key (l++[x]):=by
 unfold N1 at *
 rw [N7,List.nodup_append]
 refine ⟨hu,by simp,?_⟩
 intro a ha b hb e
 obtain ⟨y,hy,rfl⟩:=wD.1 ha
 simp at hb
 subst hb
 exact (Dj key).1 h y hy e
theorem Kh {l:List α} {k:κ} (h:lk key l k=none):l.findIdx? (fun x=>decide (key x=k))=none:=by
 rw [List.findIdx?_eq_none_iff]
 intro x hx
 simpa using (Dj key).1 h x hx
theorem Ki {l:List α} {k:κ} {x:α} (h:lk key l k=some x):∃ (i:Nat) (hi:i<l.length),l.findIdx? (fun x=>decide (key x=k))=some i∧l[i]=x:=by
 induction l with
 | nil=>cases h
 | cons y l ih=>
  rw [RM] at h
  by_cases e:key y=k
  ·rw [ZQ e] at h
   cases h
   exact ⟨0,by simp,by simp [List.findIdx?_cons,e],rfl⟩
  ·rw [Z4 e] at h
   obtain ⟨i,hi,h1,h2⟩:=ih h
   exact ⟨i+1,by simpa using hi,by simp [List.findIdx?_cons,e,h1],by simpa using h2⟩
theorem Lb:∀ {l:List α},N1 key l→∀ {i:Nat} (hi:i<l.length) (k:κ),lk key (l.eraseIdx i) k=if k=key l[i] then none else lk key l k
 | [],_,i,hi,_=>by simp at hi
 | x :: l,hu,0,_,k=>by
  obtain ⟨h1,h2⟩:=(PO key).1 hu
  simp only [List.eraseIdx_cons_zero,List.getElem_cons_zero]
  rw [RM]
  by_cases e:k=key x
  ·subst e;rw [ZQ rfl,Dj];exact h1
  ·rw [Z4 e,Z4 (fun h=>e h.symm)]
 | x :: l,hu,i+1,hi,k=>by
  obtain ⟨h1,h2⟩:=(PO key).1 hu
  simp only [List.eraseIdx_cons_succ,List.getElem_cons_succ]
  rw [RM,RM,Lb h2 (by simpa using hi) k]
  by_cases e:key x=k
  ·subst e
   rw [ZQ rfl,ZQ rfl,Z4]
   exact fun e=>h1 _ (Ot (by simpa using hi)) e.symm
  ·rw [Z4 e,Z4 e]
theorem yg:∀ {l:List α},N1 key l→∀ {i:Nat} (hi:i<l.length) {y:α},key y=key l[i]→∀ k:κ,lk key (l.set i y) k=if k=key y then some y else lk key l k
 | [],_,i,hi,_,_,_=>by simp at hi
 | x :: l,hu,0,_,y,hy,k=>by
  simp only [List.set_cons_zero,List.getElem_cons_zero] at *
  rw [RM,RM,hy]
  by_cases e:key x=k
  ·subst e;rw [ZQ rfl,ZQ rfl]
  ·rw [Z4 e,Z4 (fun h=>e h.symm),Z4 e]
 | x :: l,hu,i+1,hi,y,hy,k=>by
  obtain ⟨h1,h2⟩:=(PO key).1 hu
  simp only [List.set_cons_succ,List.getElem_cons_succ] at *
  rw [RM,RM,yg h2 (by simpa using hi) hy k]
  by_cases e:key x=k
  ·subst e
   rw [ZQ rfl,ZQ rfl,Z4]
   rw [hy]
   exact fun e=>h1 _ (Ot (by simpa using hi)) e.symm
  ·rw [Z4 e,Z4 e]
end
end Go.Proofs.uy
