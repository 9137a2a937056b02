import Derived.Test.YtpdjhlcbcomdkaaGreatDoorS06
set_option linter.all false
set_option maxRecDepth 100000
set_option maxHeartbeats 16000000
open Go Go.Q Go.Qr Go.Proofs.Tryz Go.RowKit
namespace Go.Proofs.By
def yP(b:Nat)(T:ZK)(o:Op)(sa ba:Option Addr)(sc bl bc:Nat)(w:World)(hR:ZI w b T)(Va:T.Small)(hT:Xn w)(UD:o.name.length<9223372036854775807)(Sy:∀x∈T.Zu,x.name.length<9223372036854775807)
  (ZW:XG w (.slice sa o.ZG.length sc) o.ZG.length (bd o.ZG)) (hw:T.XQ o=0) (V9:og T o) (hk:o.kind=4) :
  Calls prog 72 (Qi (some ⟨b,0,none⟩) (Jr o sa o.ZG.length sc ba bl bc)) w (UE b T o w):=by
 have cw:=VV b T o sa ba sc bl bc (w.alloc (.cells (Jr o sa o.ZG.length sc ba bl bc) 32)) (hR.below (Z' _ _)) (Utf8Tabs_below hT (Z' _ _)) UD Sy (ZW.below (Z' _ _));have hb:=hR.lt;have PI:=Zh ZW;have HR:=Zh hR;have LK:=Zh Va;have HF:Hid (T.Wq o=(([],T.IE ⟨o.source,o.peer,o.ZG,false⟩),0)):=by show _=_;unfold ZK.Wq ZK.turns;rw[Z3 (by rw[hw];simp)];simp[hk]
 rw[hw]at cw;have CW:=Zh cw;have Pg:=Zh V9;obtain⟨kd,p,n,la,nm,ss⟩:=o;dsimp only at *;subst hk;have yg:=Va.Yb;unfold small at yg;have LW:=V9.ssl rfl;obtain⟨pv,sv,uv,Yh,Xy⟩:=hR.Vm;obtain⟨P,S7,UM,AX⟩:=Xy.Yb;have hPl:P.length≤100000:=by rw[←S7,Te]at yg;exact yg
 have zX:Hid (∀u∈P.flatMap Y_,u.oneCell'=true):=OX fun x hx=>by obtain⟨a,c,h,-,-⟩:=AX x hx;exact⟨a,_,c,h⟩
 obtain⟨a,cap,rfl,Oy,-,-,-⟩:=id UM;have Hh:Hid (∀w',Below w w w'→Row w' 108 (.slice a P.length cap) P.length (P.flatMap Y_)∧(∀x∈P,Row w' 66 x.2 x.1.ss.length (bd x.1.ss))∧XG w' (.slice sa ss.length sc) ss.length (bd ss)):=fun w' h=>⟨UM.below h,fun x hx=>(AX x hx).below h,ZW.below h⟩
 have zW:=Zh (Sn P);have dt:=Zh S7;have Hi:Hid ((bd ss).length=ss.length*1):=by show _=_;rw[VI,Nat.mul_one]
 have HC:Hid (∀w',Below w w w'→w'.cell? ⟨b,1,none⟩=some (.slice a P.length cap)∧w'.frozen? ⟨b,1,none⟩=false):=fun w' h=>⟨(h.cell (p:=⟨b,1,none⟩) hb).trans (ch Yh 1),(h.frozen (p:=⟨b,1,none⟩) hb).trans (hR.Yv 1)⟩
 clear UM AX Yh Xy S7 yg;clear hR Va hT UD Sy ZW cw hw V9;have Gs:=Zh (Z9 w (.cells (Qa 4 p n la (str nm) sa ss.length sc ba bl bc) 32));have EN:=World.size_alloc w (.cells (Qa 4 p n la (str nm) sa ss.length sc ba bl bc) 32);have SE:Hid (Below w w (w.alloc (.cells (Qa 4 p n la (str nm) sa ss.length sc ba bl bc) 32))):=Z' _ _;go_enter func72,ntmps72;go_wp2_with fail
 (with_reducible refine CW.o.mono ?_)
 rintro e w1 ⟨rfl,YV⟩;have VA:Hid (Below w w w1):=SE.o.trans (YV.mono Zo);have Rn:w.heap.size<w1.heap.size:=by have:=YV.size;omega
 have VR:=fun(j:Nat)=>(YV.cell (p:=⟨w,j,none⟩) TQ).trans (ch Gs.o j)
 have x0:w1.cell? ⟨w,0,none⟩=some (.int .i64 4):=VR 0;have x1:w1.cell? ⟨w,1,none⟩=some (.int .i64 p):=VR 1;have x2:w1.cell? ⟨w,2,none⟩=some (.int .i64 n):=VR 2;have x3:w1.cell? ⟨w,3,none⟩=some (.int .i64 la):=VR 3;have x4:w1.cell? ⟨w,4,none⟩=some (.string (str nm)):=VR 4;have x5:w1.cell? ⟨w,5,none⟩=some (.slice sa ss.length sc):=VR 5;have x6:w1.cell? ⟨w,6,none⟩=some (.slice ba bl bc):=VR 6;clear YV VR;have Zv:Hid (∀w',Below w1 w1 w'→w'.cell? ⟨b,1,none⟩=some (.slice a P.length cap)∧w'.frozen? ⟨b,1,none⟩=false):=fun w' h=>HC.o _ (VA.o.trans (h.mono Zo))
 have R8:Hid (∀w',Below w1 w1 w'→Row w' 108 (.slice a P.length cap) P.length (P.flatMap Y_)∧(∀x∈P,Row w' 66 x.2 x.1.ss.length (bd x.1.ss))∧XG w' (.slice sa ss.length sc) ss.length (bd ss)):=fun w' h=>Hh.o _ (VA.o.trans (h.mono Zo))
 have dD:Hid (∀w',Below w1 w1 w'→ZI w' b T∧Fr w (· = b) w w'):=fun w' h=>⟨HR.o.below (VA.o.trans (h.mono Zo)),Fr.Z8 _ (VA.o.trans (h.mono Zo))⟩
 have Sr:Hid (∀w',Fr w1 (· = b) w1 w'→w'.cell? ⟨w,1,none⟩=some (.int .i64 p)∧w'.cell? ⟨w,2,none⟩=some (.int .i64 n)∧w'.cell? ⟨w,5,none⟩=some (.slice sa ss.length sc)∧Fr w1 (· = b) w1 w'):=fun w' h=>⟨(h.cell (p:=⟨w,1,none⟩) Rn TQ).trans x1,(h.cell (p:=⟨w,2,none⟩) Rn TQ).trans x2,(h.cell (p:=⟨w,5,none⟩) Rn TQ).trans x5,h⟩
 have Nh:Below w1 w1 w1:=YE _ _;obtain⟨k0,k1⟩:=Zv.o _ Nh;have hbw1:b<w1.heap.size:=by omega
 have ne1:=World.new_ne w1 ⟨b,1,none⟩ k0;clear Hh HC;go_upto_region 10 with fail
 refine RX ?_;refine wp_region_held_drew (S:=(fun w'=>w'.cell? ⟨w,1,none⟩=some (.int .i64 p)∧w'.cell? ⟨w,2,none⟩=some (.int .i64 n)∧w'.cell? ⟨w,5,none⟩=some (.slice sa ss.length sc)∧Fr w1 (· = b) w1 w')) X6 ?_ (fun _=>?_)
 ·exact Mv
 refine YA 0 (h:=YA 1 (h:=YA 2 (h:=YA 3 (h:=YA 6 (h:=YA 7 (h:=YA 8 (h:=YA 9 (h:=YA 10 (h:=YA 11 (h:=?_))))))))));refine wpAnyH_ready (rs:=[4]) X6 Zi ?_;refine AllReadyH.cons (i:=4) rfl (fun K hK=>?_) ?_
 ·go_simp;refine hK.out _ _ ?_ (fun _=>?_)
  ·exact Mv
  clear hK K;try simp only[pt]
  refine wpAnyH_ready (rs:=[5]) X6 Zi ?_;refine AllReadyH.cons (i:=5) rfl (fun K hK=>?_) ?_
  ·(first|(go_split_ands;refine Y9 Zr (.const (.slice none 0 0)) (.tmp 46) 48 Zr w1 UF (.slice none 0 0) 0 [] Zr (TH _ _ _ _) (.slice a P.length cap) P.length (P.flatMap Y_) Zr ?_ zW.o zX.o Zo Zo ?_ ?_;(exact(R8.o _ Wh).1);(exact Below.size Wh);intro v1 w2 TP N7;have T6:=Xv N7.o;have Yk:Below w1 w1 w2:=Below.call Wh (Zq _) T6;have r2:Below w2 w2 w2:=YE _ _;have rs2:Below ws ws w2:=Below.call Wh (Zq _) T6;obtain⟨k2,k3⟩:=Zv.o _ Yk)|(go_split_ands;refine Y9 Zr (.const (.slice none 0 0)) (.tmp 46) 48 Zr w1 UF (.slice none 0 0) 0 [] Zr (TH _ _ _ _) (.slice a P.length cap) P.length (P.flatMap Y_) Zr ?_ zW.o zX.o Zo Zo ?_ ?_;(exact(R8.o _ Wh).1);(exact Below.size Wh);intro v1 w2 TP N7;have T6:=Xv N7.o;have Yk:Below w1 w1 w2:=Below.call Wh (Zq _) T6;have r2:Below w2 w2 w2:=YE _ _;  obtain⟨k2,k3⟩:=Zv.o _ Yk)|(go_split_ands;refine QM Zr (.const (.slice none 0 0)) (.tmp 53) 29 Zr w1 bm (.slice none 0 0) 0 [] Zr (TH _ _ _ _) (.slice sa ss.length sc) ss.length (bd ss) Zr ?_ Hi.o (QE _) Zo Zo ?_ ?_;(exact(R8.o _ Wh).2.2);(exact Below.size Wh);intro vs ws BD iE;have rP:=Xv iE.o;have Fq:Below w1 w1 ws:=Below.call Wh (Zq _) rP;have rs:Below ws ws ws:=YE _ _;have r2s:Below w2 w2 ws:=Below.call Wh (Zq _) rP;obtain⟨k2,k3⟩:=Zv.o _ Fq;have M8:=Zh (Row.Z4 BD.o);obtain⟨zN,zO,hv⟩:=Wl BD.o;rw[PA]at hv M8;rw[IC]at M8;subst hv)|(go_split_ands;refine QM Zr (.const (.slice none 0 0)) (.tmp 53) 29 Zr w1 bm (.slice none 0 0) 0 [] Zr (TH _ _ _ _) (.slice sa ss.length sc) ss.length (bd ss) Zr ?_ Hi.o (QE _) Zo Zo ?_ ?_;(exact(R8.o _ Wh).2.2);(exact Below.size Wh);intro vs ws BD iE;have rP:=Xv iE.o;have Fq:Below w1 w1 ws:=Below.call Wh (Zq _) rP;have rs:Below ws ws ws:=YE _ _;  obtain⟨k2,k3⟩:=Zv.o _ Fq;have M8:=Zh (Row.Z4 BD.o);obtain⟨zN,zO,hv⟩:=Wl BD.o;rw[PA]at hv M8;rw[IC]at M8;subst hv)|(go_split_ands;refine Y9 Zr (.tmp 47) (.tmp 56) 48 Zr w1 UF v1 (0+P.length) ([]++P.flatMap Y_) Zr ?_ _ 1 (Qq n p zN ss.length zO false) Zr ?_ Zr (KR ⟨n,p,ss,false⟩ zN ss.length zO) Zo Zo ?_ ?_;(exact Zp TP.o Wh);(repeat(first|((with_reducible refine SU _ _ 1 (Qq n p zN ss.length zO false) Zd _ ?_);rfl)|with_reducible refine Row.drew ?_|with_reducible refine Row.below ?_ T6));(exact Below.size Wh);intro v2 w3 O5 JL;have V6:Below w1 w1 w3:=Below.grown Wh JL.o (Below.size Wh) (YG TP.o);have hrv3:=Row.grown (M8.o.below Wh) (Zp TP.o Wh) JL.o Zd;obtain⟨k6,k7⟩:=Zv.o _ V6;obtain⟨va,vc,hv⟩:=Wl O5.o;subst hv))
   refine hK.out _ _ ?_ (fun _=>?_)
   ·exact Mv
   clear hK K;try simp only[pt]
   refine wpAnyH_ready (rs:=[12]) X6 Zi ?_;refine AllReadyH.cons (i:=12) rfl (fun K hK=>?_) ?_
   ·(first|(go_split_ands;refine Y9 Zr (.const (.slice none 0 0)) (.tmp 46) 48 Zr w1 UF (.slice none 0 0) 0 [] Zr (TH _ _ _ _) (.slice a P.length cap) P.length (P.flatMap Y_) Zr ?_ zW.o zX.o Zo Zo ?_ ?_;(exact(R8.o _ Wh).1);(exact Below.size Wh);intro v1 w2 TP N7;have T6:=Xv N7.o;have Yk:Below w1 w1 w2:=Below.call Wh (Zq _) T6;have r2:Below w2 w2 w2:=YE _ _;have rs2:Below ws ws w2:=Below.call Wh (Zq _) T6;obtain⟨k2,k3⟩:=Zv.o _ Yk)|(go_split_ands;refine Y9 Zr (.const (.slice none 0 0)) (.tmp 46) 48 Zr w1 UF (.slice none 0 0) 0 [] Zr (TH _ _ _ _) (.slice a P.length cap) P.length (P.flatMap Y_) Zr ?_ zW.o zX.o Zo Zo ?_ ?_;(exact(R8.o _ Wh).1);(exact Below.size Wh);intro v1 w2 TP N7;have T6:=Xv N7.o;have Yk:Below w1 w1 w2:=Below.call Wh (Zq _) T6;have r2:Below w2 w2 w2:=YE _ _;  obtain⟨k2,k3⟩:=Zv.o _ Yk)|(go_split_ands;refine QM Zr (.const (.slice none 0 0)) (.tmp 53) 29 Zr w1 bm (.slice none 0 0) 0 [] Zr (TH _ _ _ _) (.slice sa ss.length sc) ss.length (bd ss) Zr ?_ Hi.o (QE _) Zo Zo ?_ ?_;(exact(R8.o _ Wh).2.2);(exact Below.size Wh);intro vs ws BD iE;have rP:=Xv iE.o;have Fq:Below w1 w1 ws:=Below.call Wh (Zq _) rP;have rs:Below ws ws ws:=YE _ _;have r2s:Below w2 w2 ws:=Below.call Wh (Zq _) rP;obtain⟨k2,k3⟩:=Zv.o _ Fq;have M8:=Zh (Row.Z4 BD.o);obtain⟨zN,zO,hv⟩:=Wl BD.o;rw[PA]at hv M8;rw[IC]at M8;subst hv)|(go_split_ands;refine QM Zr (.const (.slice none 0 0)) (.tmp 53) 29 Zr w1 bm (.slice none 0 0) 0 [] Zr (TH _ _ _ _) (.slice sa ss.length sc) ss.length (bd ss) Zr ?_ Hi.o (QE _) Zo Zo ?_ ?_;(exact(R8.o _ Wh).2.2);(exact Below.size Wh);intro vs ws BD iE;have rP:=Xv iE.o;have Fq:Below w1 w1 ws:=Below.call Wh (Zq _) rP;have rs:Below ws ws ws:=YE _ _;  obtain⟨k2,k3⟩:=Zv.o _ Fq;have M8:=Zh (Row.Z4 BD.o);obtain⟨zN,zO,hv⟩:=Wl BD.o;rw[PA]at hv M8;rw[IC]at M8;subst hv)|(go_split_ands;refine Y9 Zr (.tmp 47) (.tmp 56) 48 Zr w1 UF v1 (0+P.length) ([]++P.flatMap Y_) Zr ?_ _ 1 (Qq n p zN ss.length zO false) Zr ?_ Zr (KR ⟨n,p,ss,false⟩ zN ss.length zO) Zo Zo ?_ ?_;(exact Zp TP.o Wh);(repeat(first|((with_reducible refine SU _ _ 1 (Qq n p zN ss.length zO false) Zd _ ?_);rfl)|with_reducible refine Row.drew ?_|with_reducible refine Row.below ?_ T6));(exact Below.size Wh);intro v2 w3 O5 JL;have V6:Below w1 w1 w3:=Below.grown Wh JL.o (Below.size Wh) (YG TP.o);have hrv3:=Row.grown (M8.o.below Wh) (Zp TP.o Wh) JL.o Zd;obtain⟨k6,k7⟩:=Zv.o _ V6;obtain⟨va,vc,hv⟩:=Wl O5.o;subst hv))
    refine hK.out _ _ ?_ (fun _=>?_)
    ·exact Mv
    clear hK K;try simp only[pt]
    refine YA 13 (h:=?_);refine wpAnyH_ready (rs:=[14]) X6 Zi ?_;refine AllReadyH.cons (i:=14) rfl (fun K hK=>?_) ?_
    ·go_simp;refine hK.out _ _ ?_ (fun _=>?_)
     ·exact Mv
     clear hK K;try simp only[pt]
     refine wpAnyH_ready (rs:=[15]) X6 Zi ?_;refine AllReadyH.cons (i:=15) rfl (fun K hK=>?_) ?_
     ·(first|(go_split_ands;refine Y9 Zr (.const (.slice none 0 0)) (.tmp 46) 48 Zr w1 UF (.slice none 0 0) 0 [] Zr (TH _ _ _ _) (.slice a P.length cap) P.length (P.flatMap Y_) Zr ?_ zW.o zX.o Zo Zo ?_ ?_;(exact(R8.o _ Wh).1);(exact Below.size Wh);intro v1 w2 TP N7;have T6:=Xv N7.o;have Yk:Below w1 w1 w2:=Below.call Wh (Zq _) T6;have r2:Below w2 w2 w2:=YE _ _;have rs2:Below ws ws w2:=Below.call Wh (Zq _) T6;obtain⟨k2,k3⟩:=Zv.o _ Yk)|(go_split_ands;refine Y9 Zr (.const (.slice none 0 0)) (.tmp 46) 48 Zr w1 UF (.slice none 0 0) 0 [] Zr (TH _ _ _ _) (.slice a P.length cap) P.length (P.flatMap Y_) Zr ?_ zW.o zX.o Zo Zo ?_ ?_;(exact(R8.o _ Wh).1);(exact Below.size Wh);intro v1 w2 TP N7;have T6:=Xv N7.o;have Yk:Below w1 w1 w2:=Below.call Wh (Zq _) T6;have r2:Below w2 w2 w2:=YE _ _;  obtain⟨k2,k3⟩:=Zv.o _ Yk)|(go_split_ands;refine QM Zr (.const (.slice none 0 0)) (.tmp 53) 29 Zr w1 bm (.slice none 0 0) 0 [] Zr (TH _ _ _ _) (.slice sa ss.length sc) ss.length (bd ss) Zr ?_ Hi.o (QE _) Zo Zo ?_ ?_;(exact(R8.o _ Wh).2.2);(exact Below.size Wh);intro vs ws BD iE;have rP:=Xv iE.o;have Fq:Below w1 w1 ws:=Below.call Wh (Zq _) rP;have rs:Below ws ws ws:=YE _ _;have r2s:Below w2 w2 ws:=Below.call Wh (Zq _) rP;obtain⟨k2,k3⟩:=Zv.o _ Fq;have M8:=Zh (Row.Z4 BD.o);obtain⟨zN,zO,hv⟩:=Wl BD.o;rw[PA]at hv M8;rw[IC]at M8;subst hv)|(go_split_ands;refine QM Zr (.const (.slice none 0 0)) (.tmp 53) 29 Zr w1 bm (.slice none 0 0) 0 [] Zr (TH _ _ _ _) (.slice sa ss.length sc) ss.length (bd ss) Zr ?_ Hi.o (QE _) Zo Zo ?_ ?_;(exact(R8.o _ Wh).2.2);(exact Below.size Wh);intro vs ws BD iE;have rP:=Xv iE.o;have Fq:Below w1 w1 ws:=Below.call Wh (Zq _) rP;have rs:Below ws ws ws:=YE _ _;  obtain⟨k2,k3⟩:=Zv.o _ Fq;have M8:=Zh (Row.Z4 BD.o);obtain⟨zN,zO,hv⟩:=Wl BD.o;rw[PA]at hv M8;rw[IC]at M8;subst hv)|(go_split_ands;refine Y9 Zr (.tmp 47) (.tmp 56) 48 Zr w1 UF v1 (0+P.length) ([]++P.flatMap Y_) Zr ?_ _ 1 (Qq n p zN ss.length zO false) Zr ?_ Zr (KR ⟨n,p,ss,false⟩ zN ss.length zO) Zo Zo ?_ ?_;(exact Zp TP.o Wh);(repeat(first|((with_reducible refine SU _ _ 1 (Qq n p zN ss.length zO false) Zd _ ?_);rfl)|with_reducible refine Row.drew ?_|with_reducible refine Row.below ?_ T6));(exact Below.size Wh);intro v2 w3 O5 JL;have V6:Below w1 w1 w3:=Below.grown Wh JL.o (Below.size Wh) (YG TP.o);have hrv3:=Row.grown (M8.o.below Wh) (Zp TP.o Wh) JL.o Zd;obtain⟨k6,k7⟩:=Zv.o _ V6;obtain⟨va,vc,hv⟩:=Wl O5.o;subst hv))
      refine hK.out _ _ ?_ (fun _=>?_)
      ·exact Mv
      clear hK K;try simp only[pt]
      refine YA 16 (h:=YA 17 (h:=?_));refine wpAnyH_ready (rs:=[18]) X6 Zi ?_;refine AllReadyH.cons (i:=18) rfl (fun K hK=>?_) ?_
      ·go_simp;refine hK.out _ _ ?_ (fun _=>?_)
       ·exact Mv
       clear hK K;try simp only[pt]
       refine wpAnyH_done X6 ?_ _;refine QP ?_;go_wp2
       go_ret2
       obtain⟨D7,bZ⟩:=dD.o _ V6;have ZW:=Row.Z4 O5.o;rw[IC,PA]at ZW
       have x9:=D7.GQ (P++[(⟨n,p,ss,false⟩,.slice zN ss.length zO)]) (l:=T.Yb++[⟨n,p,ss,false⟩]) (by rw[Ng,dt.o];rfl) (by rw[show(P++[((⟨n,p,ss,false⟩:V4),Value.slice zN ss.length zO)]).flatMap Y_=P.flatMap Y_++[.int .i64 n,.int .i64 p,.slice zN ss.length zO,.bool false] by rw[O7];rfl,show(P++[((⟨n,p,ss,false⟩:V4),Value.slice zN ss.length zO)]).length=P.length+1 by simp];exact ZW) (fun x hx=>by
        rcases EZ.1 hx with hx|hx
        ·exact(R8.o _ V6).2.1 x hx
        ·rw[K4]at hx;subst hx;exact hrv3)
       exact U9 HF (Row.nil _ _) x9 (bZ.setAt _ _)
      exact AllReadyH.nil
     exact AllReadyH.nil
    exact AllReadyH.nil
   exact AllReadyH.nil
  exact AllReadyH.nil
 exact AllReadyH.nil
def Ei(b:Nat)(T:ZK)(o:Op)(sa ba:Option Addr)(sc bl bc:Nat)(w:World)(hR:ZI w b T)(Va:T.Small)(hT:Xn w)(UD:o.name.length<9223372036854775807)(Sy:∀x∈T.Zu,x.name.length<9223372036854775807)
  (ZW:XG w (.slice sa o.ZG.length sc) o.ZG.length (bd o.ZG)) (hw:T.XQ o=0) (V9:og T o) (hk:o.kind=6) :
  Calls prog 72 (Qi (some ⟨b,0,none⟩) (Jr o sa o.ZG.length sc ba bl bc)) w (UE b T o w):=by
 have cw:=VV b T o sa ba sc bl bc (w.alloc (.cells (Jr o sa o.ZG.length sc ba bl bc) 32)) (hR.below (Z' _ _)) (Utf8Tabs_below hT (Z' _ _)) UD Sy (ZW.below (Z' _ _));have hb:=hR.lt;have PI:=Zh ZW;have HR:=Zh hR;have LK:=Zh Va;have HF:Hid (T.Wq o=(T.subscribe o,0)):=by show _=_;unfold ZK.Wq ZK.turns;rw[Z3 (by rw[hw];simp)];simp[hk]
 rw[hw]at cw;have CW:=Zh cw;have Pg:=Zh V9;obtain⟨kd,p,n,la,nm,ss⟩:=o;dsimp only at *;subst hk;have yg:=Va.ZX;unfold small at yg;obtain⟨pv,sv,uv,Yh,Xy⟩:=hR.Vm;have UM:=Xy.ZX;obtain⟨a,cap,rfl,Oy,-,-,-⟩:=id UM;have Hh:Hid (∀w',Below w w w'→Row w' 105 (.slice a T.ZX.length cap) T.ZX.length (T.ZX.flatMap Zb)):=fun w' h=>UM.below h
 have zW:=Zh (Ta T.ZX);have HC:Hid (∀w',Below w w w'→w'.cell? ⟨b,2,none⟩=some (.slice a T.ZX.length cap)∧w'.frozen? ⟨b,2,none⟩=false):=fun w' h=>⟨(h.cell (p:=⟨b,2,none⟩) hb).trans (ch Yh 2),(h.frozen (p:=⟨b,2,none⟩) hb).trans (hR.Yv 2)⟩
 have fQ:0≤(T.U6 ⟨p,n,la,false⟩).YL n:=V9.src Zi;have DD:=Zh (fun(w1:World) (h:ZI w1 b (T.U6 ⟨p,n,la,false⟩))=>Gy b (T.U6 ⟨p,n,la,false⟩) ⟨p,n,la,false⟩ w1 h fQ (V9.ZC rfl));have HSU:Hid (T.subscribe ⟨6,p,n,la,nm,ss⟩=(⟨1,p,n,la,0⟩ :: (if((T.U6 ⟨p,n,la,false⟩).VU n).ZJ then[⟨6,p,n,0,0⟩]else[(T.U6 ⟨p,n,la,false⟩).ask ⟨p,n,la,false⟩]),T.U6 ⟨p,n,la,false⟩)):=rfl;obtain⟨m,hm,Ox,-,-⟩:=Xx fQ;have Ox:(T.U6 ⟨p,n,la,false⟩).YL n=m:=Ox
 have CS:Hid (∀w1,ZI w1 b (T.U6 ⟨p,n,la,false⟩)→Calls prog 49 (Qk (some ⟨b,0,none⟩) n) w1 fun e w'=>e = .returned (.int .i64 m)∧Below w1 w1 w'):=fun w1 h=>by
  have h1:=VJ b _ n w1 h;rw[Ox]at h1;exact h1
 have mX:Hid (((T.U6 ⟨p,n,la,false⟩).VU n).ZJ=(T.U6 ⟨p,n,la,false⟩).Yb[m].ZJ):=by
  show _=_;unfold ZK.VU;rw[Ox,Wi,QQ,U' hm];rfl
 clear UM Yh Xy fQ Ox;clear hR Va hT UD Sy ZW cw hw V9;have Gs:=Zh (Z9 w (.cells (Qa 6 p n la (str nm) sa ss.length sc ba bl bc) 32));have EN:=World.size_alloc w (.cells (Qa 6 p n la (str nm) sa ss.length sc ba bl bc) 32);have SE:Hid (Below w w (w.alloc (.cells (Qa 6 p n la (str nm) sa ss.length sc ba bl bc) 32))):=Z' _ _;go_enter func72,ntmps72;go_wp2_with fail
 (with_reducible refine CW.o.mono ?_)
 rintro e w1 ⟨rfl,YV⟩;have VA:Hid (Below w w w1):=SE.o.trans (YV.mono Zo);have Rn:w.heap.size<w1.heap.size:=by have:=YV.size;omega
 have VR:=fun(j:Nat)=>(YV.cell (p:=⟨w,j,none⟩) TQ).trans (ch Gs.o j)
 have x0:w1.cell? ⟨w,0,none⟩=some (.int .i64 6):=VR 0;have x1:w1.cell? ⟨w,1,none⟩=some (.int .i64 p):=VR 1;have x2:w1.cell? ⟨w,2,none⟩=some (.int .i64 n):=VR 2;have x3:w1.cell? ⟨w,3,none⟩=some (.int .i64 la):=VR 3;have x4:w1.cell? ⟨w,4,none⟩=some (.string (str nm)):=VR 4;have x5:w1.cell? ⟨w,5,none⟩=some (.slice sa ss.length sc):=VR 5;have x6:w1.cell? ⟨w,6,none⟩=some (.slice ba bl bc):=VR 6;clear YV VR;have zI:=size_alloc w1 (.cells (Ql p n la false) 105);have Iw:=Z9 w1 (.cells (Ql p n la false) 105);have HV1:=Z' w1 (.cells (Ql p n la false) 105);have z1:=(HV1.cell (p:=⟨w,1,none⟩) Rn).trans x1;have z2:=(HV1.cell (p:=⟨w,2,none⟩) Rn).trans x2;have z3:=(HV1.cell (p:=⟨w,3,none⟩) Rn).trans x3;go_upto_region 15 with fail
 clear x0 x1 x2 x3 x4 x5 x6;generalize w1.alloc (.cells (Ql p n la false) 105)=V at *;have BA:Hid (Below w w V):=VA.o.trans (HV1.mono Zo);have hVs:w.heap.size<V.heap.size:=by omega
 have fu:w1.heap.size<V.heap.size:=by omega
 have hb1n:¬b=w1.heap.size:=by have:=VA.o.size;omega
 have hb1n':¬w1.heap.size=b:=by omega
 have Zv:Hid (∀w',Below V V w'→w'.cell? ⟨b,2,none⟩=some (.slice a T.ZX.length cap)∧w'.frozen? ⟨b,2,none⟩=false):=fun w' h=>HC.o _ (BA.o.trans (h.mono Zo))
 have R8:Hid (∀w',Below V V w'→Row w' 105 (.slice a T.ZX.length cap) T.ZX.length (T.ZX.flatMap Zb)):=fun w' h=>Hh.o _ (BA.o.trans (h.mono Zo))
 have dD:Hid (∀w',Below V V w'→ZI w' b T∧Fr w (· = b) w w'):=fun w' h=>⟨HR.o.below (BA.o.trans (h.mono Zo)),Fr.Z8 _ (BA.o.trans (h.mono Zo))⟩
 have Sr:Hid (∀w',Fr V (· = b) V w'→w'.cell? ⟨w1,0,none⟩=some (.int .i64 p)∧w'.cell? ⟨w1,1,none⟩=some (.int .i64 n)∧w'.cell? ⟨w1,2,none⟩=some (.int .i64 la)∧w'.cell? ⟨w1,3,none⟩=some (.bool false)∧Fr V (· = b) V w'):=fun w' h=>⟨(h.cell (p:=⟨w1,0,none⟩) fu TQ).trans (ch Iw 0),(h.cell (p:=⟨w1,1,none⟩) fu TQ).trans (ch Iw 1),(h.cell (p:=⟨w1,2,none⟩) fu TQ).trans (ch Iw 2),(h.cell (p:=⟨w1,3,none⟩) fu TQ).trans (ch Iw 3),h⟩
 have aJ:Hid (∀w',Fr V (· = b) V w'→w'.cell? ⟨w,1,none⟩=some (.int .i64 p)∧w'.cell? ⟨w,2,none⟩=some (.int .i64 n)∧w'.cell? ⟨w,3,none⟩=some (.int .i64 la)):=fun w' h=>⟨(h.cell (p:=⟨w,1,none⟩) hVs TQ).trans z1,(h.cell (p:=⟨w,2,none⟩) hVs TQ).trans z2,(h.cell (p:=⟨w,3,none⟩) hVs TQ).trans z3⟩
 have Nh:Below V V V:=YE _ _;obtain⟨k0,k1⟩:=Zv.o _ Nh;have hbw1:b<V.heap.size:=by omega
 have ne1:=World.new_ne V ⟨b,2,none⟩ k0;clear Hh HC HV1 z1 z2 z3 Iw zI;go_cut [] (fun wx=>ZI wx b (T.U6 ⟨p,n,la,false⟩)∧Fr w (· = b) w wx∧Fr V (· = b) V wx)
 case first=>
  refine RX ?_;refine wp_region_held_drew (S:=(fun w'=>w'.cell? ⟨w1,0,none⟩=some (.int .i64 p)∧w'.cell? ⟨w1,1,none⟩=some (.int .i64 n)∧w'.cell? ⟨w1,2,none⟩=some (.int .i64 la)∧w'.cell? ⟨w1,3,none⟩=some (.bool false)∧Fr V (· = b) V w')) X6 ?_ (fun _=>?_)
  ·exact Mv
  refine YA 0 (h:=YA 1 (h:=YA 2 (h:=YA 3 (h:=YA 6 (h:=?_)))));refine wpAnyH_ready (rs:=[4,7]) X6 Zi ?_;refine AllReadyH.cons (i:=4) rfl (fun K hK=>?_) ?_
  ·go_simp;refine hK.out _ _ ?_ (fun _=>?_)
   ·exact Mv
   clear hK K;try simp only[pt]
   refine wpAnyH_ready (rs:=[5,7]) X6 Zi ?_;refine AllReadyH.cons (i:=5) rfl (fun K hK=>?_) ?_
   ·(first|(go_split_ands;refine Y9 Zr (.const (.slice none 0 0)) (.tmp 79) 49 Zr V TZ (.slice none 0 0) 0 [] Zr (TH _ _ _ _) (.slice a T.ZX.length cap) T.ZX.length (T.ZX.flatMap Zb) Zr ?_ zW.o (Tb _) Zo Zo ?_ ?_;(exact R8.o _ Wh);(exact Below.size Wh);intro v1 w2 TP N7;have T6:=Xv N7.o;have Yk:Below V V w2:=Below.call Wh (Zq _) T6;have r2:Below w2 w2 w2:=YE _ _;obtain⟨k2,k3⟩:=Zv.o _ Yk)|(go_split_ands;refine Y9 Zr (.tmp 80) (.tmp 82) 49 Zr V TZ v1 (0+T.ZX.length) ([]++T.ZX.flatMap Zb) Zr ?_ _ 1 (Ql p n la false) Zr ?_ Zr (KS ⟨p,n,la,false⟩) Zo Zo ?_ ?_;(exact Zp TP.o Wh);(repeat(first|((with_reducible refine SU _ _ 1 (Ql p n la false) Zd _ ?_);rfl)|with_reducible refine Row.drew ?_|with_reducible refine Row.below ?_ T6));(exact Below.size Wh);intro v2 w3 O5 JL;have V6:Below V V w3:=Below.grown Wh JL.o (Below.size Wh) (YG TP.o);obtain⟨k6,k7⟩:=Zv.o _ V6;obtain⟨va,vc,hv⟩:=Wl O5.o;subst hv))
    refine hK.out _ _ ?_ (fun _=>?_)
    ·exact Mv
    clear hK K;try simp only[pt]
    refine wpAnyH_ready (rs:=[7]) X6 Zi ?_;refine AllReadyH.cons (i:=7) rfl (fun K hK=>?_) ?_
    ·go_simp;exact Yx7
    exact AllReadyH.nil
   refine AllReadyH.cons (i:=7) rfl (fun K hK=>?_) ?_
   ·exact Yx28
   exact AllReadyH.nil
  refine AllReadyH.cons (i:=7) rfl (fun K hK=>?_) ?_
  ·go_simp;refine hK.out _ _ ?_ (fun _=>?_)
   ·exact Mv
   clear hK K;try simp only[pt]
   refine wpAnyH_ready (rs:=[4]) X6 Zi ?_;refine AllReadyH.cons (i:=4) rfl (fun K hK=>?_) ?_
   ·exact Yx28
   exact AllReadyH.nil
  exact AllReadyH.nil
 case rest=>
  obtain⟨UG,Wb,hfv⟩:=hcut;obtain⟨W5,rfl⟩:∃W5:World,W5=wc:=⟨_,rfl⟩;obtain⟨y0,y1,y2,y3,-⟩:=Sr.o _ hfv;obtain⟨x1,x2,x3⟩:=aJ.o _ hfv;have hs5:=hfv.size;have aG:=Zh UG;have HFR5:=Zh Wb;clear Nh k0 k1 ne1 UG Wb hfv;have T6:=Z' W5 (.cells (Qh 1 p n la 0) 158);have ht:=Z9 W5 (.cells (Qh 1 p n la 0) 158);have kf:=aG.o.alloc (.cells (Qh 1 p n la 0) 158);have bL:=HFR5.o.alloc Zo (.cells (Qh 1 p n la 0) 158);have fT:=World.size_alloc W5 (.cells (Qh 1 p n la 0) 158);have cL:=(T6.cell (p:=⟨w1,0,none⟩) TQ).trans y0;have y1':=(T6.cell (p:=⟨w1,1,none⟩) TQ).trans y1;have gA:=(T6.cell (p:=⟨w1,2,none⟩) TQ).trans y2;have cM:=(T6.cell (p:=⟨w1,3,none⟩) TQ).trans y3;have yp':=(T6.cell (p:=⟨w,1,none⟩) TQ).trans x1;have yb':=(T6.cell (p:=⟨w,2,none⟩) TQ).trans x2;go_upto_region 17 with fail
  generalize W5.alloc (.cells (Qh 1 p n la 0) 158)=W6 at *;have wN:=Zh kf;have ay:=Zh bL;obtain⟨pv6,sv6,uv6,ME,H'⟩:=kf.Vm;obtain⟨P,S7,UM,AX⟩:=H'.Yb;have kG:m<P.length:=by rw[←S7,Te]at hm;exact hm
  have bN:=UM.len;have s1:=ch ME 1;obtain⟨pa,pc,rfl,-,-⟩:=id UM;obtain⟨gs,P8,e4,Tx⟩:=R6 UM Zo;subst e4;obtain⟨-,-,-,s4⟩:=Tx m P[m] (U' kG)
  have bO:P[m].1.ZJ=(T.U6 ⟨p,n,la,false⟩).Yb[m].ZJ:=by
   have:(P.map Prod.fst)[m]?=(T.U6 ⟨p,n,la,false⟩).Yb[m]?:=by rw[S7]
   rw[List.getElem?_map,U' kG,U' hm]at this;simp at this;rw[this]
  rw[bO]at s4
  have hgs:gs<W6.heap.size:=by
   exact Yt18
  have nD:(m:Int)<(P.length:Int):=PM.2 kG;have pG:(0:Int)≤(m:Int):=oK m;have Cg:b<W6.heap.size:=by omega
  have rS:w1.heap.size<W6.heap.size:=by omega
  have Ce:W5.heap.size<W6.heap.size:=by omega
  have hw6:w.heap.size<W6.heap.size:=by omega
  have Fx:w.heap.size≤W6.heap.size:=by omega
  clear ME H' S7 UM AX Tx bO kf bL fT;generalize P.length=NP at *;generalize(T.U6 ⟨p,n,la,false⟩).Yb[m].ZJ=mu at *
  have UK:Hid (∀w',Below W6 W6 w'→(w'.cell? ⟨w1,0,none⟩=some (.int .i64 p)∧w'.cell? ⟨w1,1,none⟩=some (.int .i64 n)∧w'.cell? ⟨w1,2,none⟩=some (.int .i64 la)∧w'.cell? ⟨w1,3,none⟩=some (.bool false))∧(w'.cell? ⟨W5,0,none⟩=some (.int .i64 1)∧w'.cell? ⟨W5,1,none⟩=some (.int .i64 p)∧w'.cell? ⟨W5,2,none⟩=some (.int .i64 n)∧w'.cell? ⟨W5,3,none⟩=some (.int .i64 la)∧w'.cell? ⟨W5,4,none⟩=some (.int .u32 0))∧w'.cell? ⟨w,1,none⟩=some (.int .i64 p)∧w'.cell? ⟨w,2,none⟩=some (.int .i64 n)∧w'.cell? ⟨b,1,none⟩=some (.slice (some ⟨gs,P8,none⟩) NP pc)∧w'.cell? ⟨gs,P8+m*4+3,none⟩=some (.bool mu)∧Below W6 W6 w'):=fun w' h=>
   ⟨⟨(h.cell (p:=⟨w1,0,none⟩) rS).trans cL,(h.cell (p:=⟨w1,1,none⟩) rS).trans y1',(h.cell (p:=⟨w1,2,none⟩) rS).trans gA,(h.cell (p:=⟨w1,3,none⟩) rS).trans cM⟩,⟨(h.cell (p:=⟨W5,0,none⟩) Ce).trans (ch ht 0),(h.cell (p:=⟨W5,1,none⟩) Ce).trans (ch ht 1),(h.cell (p:=⟨W5,2,none⟩) Ce).trans (ch ht 2),(h.cell (p:=⟨W5,3,none⟩) Ce).trans (ch ht 3),(h.cell (p:=⟨W5,4,none⟩) Ce).trans (ch ht 4)⟩,(h.cell (p:=⟨w,1,none⟩) hw6).trans yp',(h.cell (p:=⟨w,2,none⟩) hw6).trans yb',(h.cell (p:=⟨b,1,none⟩) Cg).trans s1,(h.cell (p:=⟨gs,P8+m*4+3,none⟩) hgs).trans s4,h⟩
  clear ht y0 y1 y2 y3 x1 x2 x3 cL y1' gA cM yb' yp' s1 s4 T6 aG HFR5 Zv Sr aJ R8 dD HR LK VA BA zW;generalize T.U6 ⟨p,n,la,false⟩=T1 at *;generalize T1.ask ⟨p,n,la,false⟩=TA at *;have Nh:Below W6 W6 W6:=YE _ _;go_cut [103] (fun s103 wx=>s103 = .bool mu∧Below W6 W6 wx)
  case first=>
   go_region_held3 (fun w'=>(w'.cell? ⟨w1,0,none⟩=some (.int .i64 p)∧w'.cell? ⟨w1,1,none⟩=some (.int .i64 n)∧w'.cell? ⟨w1,2,none⟩=some (.int .i64 la)∧w'.cell? ⟨w1,3,none⟩=some (.bool false))∧(w'.cell? ⟨W5,0,none⟩=some (.int .i64 1)∧w'.cell? ⟨W5,1,none⟩=some (.int .i64 p)∧w'.cell? ⟨W5,2,none⟩=some (.int .i64 n)∧w'.cell? ⟨W5,3,none⟩=some (.int .i64 la)∧w'.cell? ⟨W5,4,none⟩=some (.int .u32 0))∧w'.cell? ⟨w,1,none⟩=some (.int .i64 p)∧w'.cell? ⟨w,2,none⟩=some (.int .i64 n)∧w'.cell? ⟨b,1,none⟩=some (.slice (some ⟨gs,P8,none⟩) NP pc)∧w'.cell? ⟨gs,P8+m*4+3,none⟩=some (.bool mu)∧Below W6 W6 w') (first|(exact UK.o _ WE)|(exact UK.o _ (Below.drew WE))|go_keep) (first|(go_at_call 49;go_split_ands;(with_reducible refine Calls.mono (CS.o _ (wN.o.below WE)) ?_);rintro e V2 ⟨rfl,M_⟩;have MD:=Below.call WE (Zq _) M_)|fail)
   all_goals(go_wp2_with fail;go_meet;exact⟨rfl,by first|with_reducible assumption|exact Below.drew WE⟩)
  case rest=>
   clear Nh;obtain⟨rfl,Nj⟩:=hcut;obtain⟨W7,rfl⟩:∃W7:World,W7=wc:=⟨_,rfl⟩;cases mu
   ·have mZ:Hid (T.subscribe ⟨6,p,n,la,nm,ss⟩=([⟨1,p,n,la,0⟩,TA],T1)):=by show _=_;rw[HSU.o,mX.o];rfl
    go_upto_region 19 with fail
    go_region_held3 (fun w'=>(w'.cell? ⟨w1,0,none⟩=some (.int .i64 p)∧w'.cell? ⟨w1,1,none⟩=some (.int .i64 n)∧w'.cell? ⟨w1,2,none⟩=some (.int .i64 la)∧w'.cell? ⟨w1,3,none⟩=some (.bool false))∧(w'.cell? ⟨W5,0,none⟩=some (.int .i64 1)∧w'.cell? ⟨W5,1,none⟩=some (.int .i64 p)∧w'.cell? ⟨W5,2,none⟩=some (.int .i64 n)∧w'.cell? ⟨W5,3,none⟩=some (.int .i64 la)∧w'.cell? ⟨W5,4,none⟩=some (.int .u32 0))∧w'.cell? ⟨w,1,none⟩=some (.int .i64 p)∧w'.cell? ⟨w,2,none⟩=some (.int .i64 n)∧w'.cell? ⟨b,1,none⟩=some (.slice (some ⟨gs,P8,none⟩) NP pc)∧w'.cell? ⟨gs,P8+m*4+3,none⟩=some (.bool false)∧Below W6 W6 w') (first|(exact UK.o _ WE)|(exact UK.o _ (Below.drew WE))|(exact UK.o _ (Below.alloc' WE (Zq _) _))|(exact UK.o _ (Below.alloc' (Below.drew WE) (Zq _) _))|go_keep) (first|(go_at_call 99;go_split_ands;(with_reducible refine Calls.mono (DD.o _ (wN.o.below WE)) ?_);rintro e V3 ⟨rfl,M_⟩;have D4:=Below.call WE (Zq _) M_;unfold VN)|fail)
    go_wp2
    go_ret2
    rw[mZ.o]at HF;exact U9 HF (Yn _ _ 2 _ ([⟨1,p,n,la,0⟩,TA].flatMap Z7) Zd rfl) (wN.o.below (D4.alloc D4.size _)) (ay.o.trans ((Fr.Z8 _ (D4.alloc D4.size _)).mono Fx (fun _ _ h=>h)))
   ·have mZ:Hid (T.subscribe ⟨6,p,n,la,nm,ss⟩=([⟨1,p,n,la,0⟩,⟨6,p,n,0,0⟩],T1)):=by show _=_;rw[HSU.o,mX.o];rfl
    obtain⟨-,⟨t0,t1,t2,t3,t4⟩,q1,q2,-⟩:=UK.o _ Nj;have hzt:W5.heap.size<W7.heap.size:=Od Ce Nj.size;have hzw:w.heap.size<W7.heap.size:=Od hw6 Nj.size;go_wp2
    go_ret2
    rw[mZ.o]at HF;exact U9 HF (Yn _ _ 2 _ ([⟨1,p,n,la,0⟩,⟨6,p,n,0,0⟩].flatMap Z7) Zd rfl) ((wN.o.below Nj).alloc _) ((ay.o.trans ((Fr.Z8 _ Nj).mono Fx (fun _ _ h=>h))).alloc (PJ Fx Nj.size) _)
def gm(b:Nat)(T:ZK)(o:Op)(sa ba:Option Addr)(sc bl bc:Nat)(w:World)(hR:ZI w b T)(Va:T.Small)(hT:Xn w)(UD:o.name.length<9223372036854775807)(Sy:∀x∈T.Zu,x.name.length<9223372036854775807)
  (ZW:XG w (.slice sa o.ZG.length sc) o.ZG.length (bd o.ZG)) (V9:T.XQ o=0→og T o) :
  Calls prog 72 (Qi (some ⟨b,0,none⟩) (Jr o sa o.ZG.length sc ba bl bc)) w (UE b T o w):=by
 by_cases hw:T.XQ o=0
 ·have ok:=V9 hw;have hk:=ok.kind;have:o.kind=2∨o.kind=3∨o.kind=4∨o.kind=5∨o.kind=6∨o.kind=7∨o.kind=8∨o.kind=9∨o.kind=10∨o.kind=11∨o.kind=12:=by omega
  rcases this with h|h|h|h|h|h|h|h|h|h|h
  ·exact mn b T o sa ba sc bl bc w hR Va hT UD Sy ZW hw ok h
  ·exact qw b T o sa ba sc bl bc w hR Va hT UD Sy ZW hw ok h
  ·exact yP b T o sa ba sc bl bc w hR Va hT UD Sy ZW hw ok h
  ·exact Ej b T o sa ba sc bl bc w hR Va hT UD Sy ZW hw ok h
  ·exact Ei b T o sa ba sc bl bc w hR Va hT UD Sy ZW hw ok h
  ·exact Hc b T o sa ba sc bl bc w hR Va hT UD Sy ZW hw ok h
  ·exact mo b T o sa ba sc bl bc w hR Va hT UD Sy ZW hw ok h
  ·exact uN b T o sa ba sc bl bc w hR Va hT UD Sy ZW hw ok h
  ·exact qx b T o sa ba sc bl bc w hR Va hT UD Sy ZW hw ok h
  ·exact uM b T o sa ba sc bl bc w hR Va hT UD Sy ZW hw ok h
  ·exact mr b T o sa ba sc bl bc w hR Va hT UD Sy ZW hw ok h
 ·exact gp b T o sa ba sc bl bc w hR Va hT UD Sy ZW hw
section
variable {α κ:Type} (key:α→κ)
def Nc(l:List α):Prop:=(l.map key).Nodup
def OZ{x:α}{l:List α}:Nc key (x :: l)↔(∀y∈l,key y≠key x)∧Nc key l:=by
 unfold Nc;rw[List.map_cons,List.nodup_cons];constructor
 ·rintro⟨h1,h2⟩;exact⟨fun y hy e=>h1 (by rw[←e];exact List.mem_map_of_mem hy),h2⟩
 ·rintro⟨h1,h2⟩;refine⟨fun h=>?_,h2⟩;obtain⟨y,hy,e⟩:=vS.1 h;exact h1 y hy e
def Li{l:List α}(hu:Nc key l)(i:Nat):Nc key (l.eraseIdx i):=
 List.Nodup.sublist ((List.eraseIdx_sublist l i).map key) hu
def zl{l:List α}(hu:Nc key l){i:Nat}(hi:i<l.length){y:α}(hy:key y=key l[i]):Nc key (l.set i y):=by
 unfold Nc at *
 have:(l.set i y).map key=l.map key:=by
  rw[List.map_set,hy];have:key l[i]=(l.map key)[i]'(by simpa using hi):=by simp
  rw[this,List.set_getElem_self]
 rw[this];exact hu
end
section
variable {α κ:Type} [DecidableEq κ] (key:α→κ)
def lk(l:List α)(k:κ):Option α:=l.find? fun x=>decide (key x=k)
def QW(x:α)(l:List α)(k:κ):lk key (x :: l) k=if key x=k then some x else lk key l k:=by
 unfold lk;by_cases h:key x=k <;> simp[h]
def IY(l:List α)(x:α)(k:κ):lk key (l++[x]) k=(lk key l k).or (if key x=k then some x else none):=by
 unfold lk;rw[List.find?_append];by_cases h:key x=k <;> simp[h]
def A4{l:List α}{k:κ}:lk key l k=none↔∀x∈l,key x≠k:=by
 unfold lk;rw[List.find?_eq_none];simp
def IZ{l:List α}(hu:Nc key l){x:α}(hx:x∈l):lk key l (key x)=some x:=by
 induction l with
 | nil=>cases hx
 | cons y l ih=>
  rw[QW];obtain⟨h1,h2⟩:=(OZ key).1 hu;rcases K5.1 hx with rfl|hx
  ·rw[ZU rfl]
  ·rw[Z3 (fun e=>h1 x hx e.symm)];exact ih h2 hx
def M4{l:List α}{x:α}(hu:Nc key l)(h:lk key l (key x)=none):Nc key (l++[x]):=by
 unfold Nc at *;rw[Ng,List.nodup_append];refine⟨hu,by simp,?_⟩;intro a ha b hb e;obtain⟨y,hy,rfl⟩:=vS.1 ha;simp at hb;subst hb;exact(A4 key).1 h y hy e
def IJ{l:List α}{k:κ}(h:lk key l k=none):l.findIdx? (fun x=>decide (key x=k))=none:=by
 rw[List.findIdx?_eq_none_iff];intro x hx;simpa using (A4 key).1 h x hx
def IK{l:List α}{k:κ}{x:α}(h:lk key l k=some x):∃(i:Nat) (hi:i<l.length),l.findIdx? (fun x=>decide (key x=k))=some i∧l[i]=x:=by
 induction l with
 | nil=>cases h
 | cons y l ih=>
  rw[QW]at h;by_cases e:key y=k
  ·rw[ZU e]at h;cases h;exact⟨0,by simp,by simp[List.findIdx?_cons,e],rfl⟩
  ·rw[Z3 e]at h;obtain⟨i,hi,h1,h2⟩:=ih h;exact⟨i+1,by simpa using hi,by simp[List.findIdx?_cons,e,h1],by simpa using h2⟩
def J8:∀ {l:List α},Nc key l→∀ {i:Nat} (hi:i<l.length) (k:κ),lk key (l.eraseIdx i) k=if k=key l[i]then none else lk key l k
 | [],_,i,hi,_=>by simp at hi
 | x :: l,hu,0,_,k=>by
  obtain⟨h1,h2⟩:=(OZ key).1 hu;simp only[List.eraseIdx_cons_zero,List.getElem_cons_zero];rw[QW];by_cases e:k=key x
  ·subst e;rw[ZU rfl,A4];exact h1
  ·rw[Z3 e,Z3 (fun h=>e h.symm)]
 | x :: l,hu,i+1,hi,k=>by
  obtain⟨h1,h2⟩:=(OZ key).1 hu;simp only[List.eraseIdx_cons_succ,List.getElem_cons_succ];rw[QW,QW,J8 h2 (by simpa using hi) k];by_cases e:key x=k
  ·subst e;rw[ZU rfl,ZU rfl,Z3];exact fun e=>h1 _ (O6 (by simpa using hi)) e.symm
  ·rw[Z3 e,Z3 e]
def u7:∀ {l:List α},Nc key l→∀ {i:Nat} (hi:i<l.length) {y:α},key y=key l[i]→∀k:κ,lk key (l.set i y) k=if k=key y then some y else lk key l k
 | [],_,i,hi,_,_,_=>by simp at hi
 | x :: l,hu,0,_,y,hy,k=>by
  simp only[List.set_cons_zero,List.getElem_cons_zero]at *;rw[QW,QW,hy];by_cases e:key x=k
  ·subst e;rw[ZU rfl,ZU rfl]
  ·rw[Z3 e,Z3 (fun h=>e h.symm),Z3 e]
 | x :: l,hu,i+1,hi,y,hy,k=>by
  obtain⟨h1,h2⟩:=(OZ key).1 hu;simp only[List.set_cons_succ,List.getElem_cons_succ]at *;rw[QW,QW,u7 h2 (by simpa using hi) hy k];by_cases e:key x=k
  ·subst e;rw[ZU rfl,ZU rfl,Z3];rw[hy];exact fun e=>h1 _ (O6 (by simpa using hi)) e.symm
  ·rw[Z3 e,Z3 e]
end
def uk(x:Vd):Int×Int:=(x.peer,x.source)
def Vg(R:Room)(n:Int):Bool:=Vv n 9&&(R.src n.toNat).there
def Pf(R:Room)(p:Int):U1:=⟨p,R.names p.toNat⟩
def Uk(R:Room)(n:Int):V4:=⟨n,(R.src n.toNat).own,(R.src n.toNat).ss,(R.src n.toNat).ZJ⟩
def Uq(R:Room)(p n:Int):Vd:=⟨p,n,(R.sub n.toNat p.toNat).want,(R.sub n.toNat p.toNat).ZV⟩
structure Wp(T:ZK)(R:Room):Prop where
 up:Nc U1.num T.Zu
 us:Nc V4.num T.Yb
 uu:Nc uk T.ZX
 pe:∀p,lk U1.num T.Zu p=if Y5 R p then some (Pf R p)else none
 sr:∀n,lk V4.num T.Yb n=if Vg R n then some (Uk R n)else none
 su:∀p n,lk uk T.ZX (p,n)=if Ze R p n then some (Uq R p n)else none
def FV(n:Int):(fun x:U1=>x.num==n)=fun x=>decide (U1.num x=n):=by funext x;rw[Bool.eq_iff_iff];simp
def Dv(n:Int):(fun x:V4=>x.num==n)=fun x=>decide (V4.num x=n):=by funext x;rw[Bool.eq_iff_iff];simp
def Dw(p n:Int):(fun x:Vd=>x.peer==p&&x.source==n)=fun x=>decide (uk x=(p,n)):=by
 funext x;rw[Bool.eq_iff_iff];simp[uk]
section
variable {T:ZK} {R:Room} (h:Wp T R)
include h
def Wp.FX{p:Int}(hj:Y5 R p=true):∃(i:Nat) (hi:i<T.Zu.length),T.Xw p=i∧T.Zu[i]=Pf R p:=by
 have:=h.pe p;rw[hj,ZU rfl]at this;obtain⟨i,hi,h1,h2⟩:=IK _ this;exact⟨i,hi,by unfold ZK.Xw findAt;rw[FV,h1],h2⟩
def Wp.GN{p:Int}(hj:Y5 R p=false):T.Xw p=-1:=by
 have:=h.pe p;rw[hj,Z3 Zd]at this;unfold ZK.Xw findAt;rw[FV,IJ _ this]
def Wp.Mp{n:Int}(hj:Vg R n=true):∃(i:Nat) (hi:i<T.Yb.length),T.YL n=i∧T.Yb[i]=Uk R n:=by
 have:=h.sr n;rw[hj,ZU rfl]at this;obtain⟨i,hi,h1,h2⟩:=IK _ this;exact⟨i,hi,by unfold ZK.YL findAt;rw[Dv,h1],h2⟩
def Wp.vg{n:Int}(hj:Vg R n=false):T.YL n=-1:=by
 have:=h.sr n;rw[hj,Z3 Zd]at this;unfold ZK.YL findAt;rw[Dv,IJ _ this]
def Wp.KQ{p n:Int}(hj:Ze R p n=true):∃(i:Nat) (hi:i<T.ZX.length),T.YZ p n=i∧T.ZX[i]=Uq R p n:=by
 have:=h.su p n;rw[hj,ZU rfl]at this;obtain⟨i,hi,h1,h2⟩:=IK _ this;exact⟨i,hi,by unfold ZK.YZ findAt;rw[Dw,h1],h2⟩
def Wp.mG{p n:Int}(hj:Ze R p n=false):T.YZ p n=-1:=by
 have:=h.su p n;rw[hj,Z3 Zd]at this;unfold ZK.YZ findAt;rw[Dw,IJ _ this]
def Wp.Xw(p:Int):0≤T.Xw p↔Y5 R p=true:=by
 cases hj:Y5 R p
 ·rw[h.GN hj];simp
 ·obtain⟨i,_,hi,_⟩:=h.FX hj;rw[hi];simp
def Wp.YL(n:Int):0≤T.YL n↔Vg R n=true:=by
 cases hj:Vg R n
 ·rw[h.vg hj];simp
 ·obtain⟨i,_,hi,_⟩:=h.Mp hj;rw[hi];simp
def Wp.YZ(p n:Int):0≤T.YZ p n↔Ze R p n=true:=by
 cases hj:Ze R p n
 ·rw[h.mG hj];simp
 ·obtain⟨i,_,hi,_⟩:=h.KQ hj;rw[hi];simp
def Wp.VU{n:Int}(hj:Vg R n=true):T.VU n=Uk R n:=by
 obtain⟨i,hi,h1,h2⟩:=h.Mp hj;unfold ZK.VU;rw[h1,Wi,QQ,U' hi,h2];rfl
def Wp.N0{p n:Int}(hj:Ze R p n=true):T.N0 p n=Uq R p n:=by
 obtain⟨i,hi,h1,h2⟩:=h.KQ hj;unfold ZK.N0;rw[h1,Wi,QQ,U' hi,h2];rfl
def Wp.owner(n:Int):T.owner n=if Vg R n then(R.src n.toNat).own else 0:=by
 unfold ZK.owner;cases hj:Vg R n
 ·rw[h.vg hj];simp
 ·have:=(h.YL n).2 hj;rw[Z3 Zo,h.VU hj];simp[Uk]
def Wp.Fu(n:Int):T.Ze n=ZX R n:=by
 unfold ZK.Ze ZK.Vi ZX;have e:(List.range 9)=0 :: (List.range 8).map (· + 1):=by decide
 rw[e,List.filter_cons,Z3 (by unfold Ze Vv;simp)];apply List.filter_congr;intro p _;rw[Bool.eq_iff_iff,decide_eq_true_iff];exact h.YZ p n
def Wp.A6{x:V4}:x∈T.Yb↔∃n,Vg R n=true∧x=Uk R n:=by
 constructor
 ·intro hx;have h1:=IZ V4.num h.us hx;rw[h.sr]at h1;cases hj:Vg R x.num
  ·rw[hj]at h1;simp at h1
  ·rw[hj]at h1;simp at h1;exact⟨_,hj,h1.symm⟩
 ·rintro⟨n,hn,rfl⟩;obtain⟨i,hi,_,h2⟩:=h.Mp hn;rw[←h2];exact O6 hi
def Wp.Kq{x:U1}:x∈T.Zu↔∃n,Y5 R n=true∧x=Pf R n:=by
 constructor
 ·intro hx;have h1:=IZ U1.num h.up hx;rw[h.pe]at h1;cases hj:Y5 R x.num
  ·rw[hj]at h1;simp at h1
  ·rw[hj]at h1;simp at h1;exact⟨_,hj,h1.symm⟩
 ·rintro⟨n,hn,rfl⟩;obtain⟨i,hi,_,h2⟩:=h.FX hn;rw[←h2];exact O6 hi
def Wp.GL{x:Vd}:x∈T.ZX↔Ze R x.peer x.source=true∧x=Uq R x.peer x.source:=by
 constructor
 ·intro hx;have h1:=IZ uk h.uu hx;unfold uk at h1;rw[show(fun x:Vd=>(x.peer,x.source))=uk from rfl]at h1;rw[h.su]at h1;cases hj:Ze R x.peer x.source
  ·rw[hj]at h1;simp at h1
  ·rw[hj]at h1;simp at h1;exact⟨rfl,h1.symm⟩
 ·rintro⟨hn,hx⟩;obtain⟨i,hi,_,h2⟩:=h.KQ hn;rw[hx,←h2];exact O6 hi
end
def Vh{R:Room}{n:Int}:Vg R n=true↔1≤n∧n<9∧(R.src n.toNat).there=true:=by
 unfold Vg;rw[UN,XI];constructor
 ·rintro⟨⟨a,b⟩,c⟩;exact⟨a,b,c⟩
 ·rintro⟨a,b,c⟩;exact⟨⟨a,b⟩,c⟩
def Sc{R:Room}{p n:Int}:Ze R p n=true↔1≤p∧p<9∧1≤n∧n<9∧(R.sub n.toNat p.toNat).there=true:=by
 unfold Ze;rw[UN,UN,XI,XI];constructor
 ·rintro⟨⟨⟨a,b⟩,c,d⟩,e⟩;exact⟨a,b,c,d,e⟩
 ·rintro⟨a,b,c,d,e⟩;exact⟨⟨⟨a,b⟩,c,d⟩,e⟩
def Ug{R:Room}{p:Int}:Y5 R p=true↔1≤p∧p<9∧R.names p.toNat≠[]:=by
 unfold Y5;rw[UN,XI];constructor
 ·rintro⟨⟨a,b⟩,c⟩;exact⟨a,b,by intro e;rw[e]at c;cases c⟩
 ·rintro⟨a,b,c⟩;exact⟨⟨a,b⟩,by cases e:R.names p.toNat with|nil=>exact absurd e c|cons _ _=>rfl⟩
def Wp.of_eq{T:ZK}{R:Room}(h:Wp T R)(hI:Inv R)(x:Int):T.of x=of R x:=by
 cases ho:(of R x).2.2
 ·have hn:=se.1 ho
  have h1:T.Rg x=-1:=by
   unfold ZK.Rg;apply Rx;intro j hj;obtain⟨n,H8,fM⟩:=h.A6.1 (O6 hj);rw[fM,JU,ne_eq,List.contains_iff_mem];obtain⟨a,b,c⟩:=Vh.1 H8;exact hn n.toNat Zo c
  have h2:of R x=(0,0,false):=by
   have:∀k n,(Ro R x k n).2.2=false→Ro R x k n=(0,0,false):=by
    intro k
    induction k with
    | zero=>intro n _;rfl
    | succ k ih=>
     intro n hh;unfold Ro at hh ⊢;split at hh
     ·cases hh
     ·rename_i hc;rw[Z3 hc];exact ih _ hh
   exact this 9 0 ho
  unfold ZK.of;rw[h1,ZU Zd,h2]
 ·obtain⟨m,hm,ht,hx,he⟩:=Pr ho;obtain⟨AW,_⟩:=hI.YL m ht;have hs:Vg R (m:Int)=true:=Vh.2 ⟨Zo,Zo,by rw[Wi];exact ht⟩;obtain⟨i,hi,h1,h2⟩:=h.Mp hs
  have hge:0≤T.Rg x:=by
   unfold ZK.Rg;rw[ND];exact⟨T.Yb[i],O6 hi,by rw[h2,List.contains_iff_mem];unfold Uk;rw[Wi];exact hx⟩
  obtain⟨k,hk,Ru,hp,_⟩:=Xx hge;have Ru:T.Rg x=k:=Ru;obtain⟨n,H8,fM⟩:=h.A6.1 (O6 hk);rw[fM,List.contains_iff_mem]at hp;obtain⟨a,b,c⟩:=Vh.1 H8;have UD:=hI.apart n.toNat m x c ht hp hx;have UD:n=(m:Int):=by omega
  unfold ZK.of;rw[Z3 Zo,Ru,Wi,QQ,U' hk,Option.getD_some,fM,UD,he];unfold Uk;rw[Wi]
def Wp.mL{T:ZK}{R:Room}(h:Wp T R)(hI:Inv R)(l:List Int):T.Vl l=Vl R l:=by
 funext i;unfold ZK.Vl Vl;rw[h.of_eq hI,Bool.or_comm]
def FI(s:V4)(q:Int):Po s q=true↔0≤q∧q<s.ss.length:=by unfold Po;simp
def Wp.zH{T:ZK}{R:Room}(h:Wp T R)(hI:Inv R)(o:Op):T.XQ o=XQ R o:=by
 unfold ZK.XQ XQ;by_cases k1:o.kind<2∨12<o.kind
 ·rw[ZU k1,ZU k1]
 rw[Z3 k1,Z3 k1];by_cases p1:o.peer<1∨8<o.peer
 ·rw[ZU p1,ZU (show((!Vv o.peer 9)=true) by unfold Vv;simp;omega)]
 have hp:Vv o.peer 9=true:=(XI _ _).2 Zo;rw[Z3 p1,Z3 (show¬((!Vv o.peer 9)=true) by rw[hp];simp)];by_cases k2:o.kind=2
 ·rw[ZU k2,ZU k2];unfold LX;cases hj:Y5 R o.peer
  ·rw[h.GN hj,Z3 (show¬(0:Int) ≤ -1 by decide),Z3 (show¬(false=true) by decide)];by_cases hm:may o.name=true
   ·have e:(T.Zu.any fun x=>decide (key x.name=key o.name))=(List.range 9).any (sameKey R o):=by
     rw[Bool.eq_iff_iff,List.any_eq_true,List.any_eq_true];constructor
     ·rintro⟨x,hx,hk⟩;obtain⟨n,hn,rfl⟩:=h.Kq.1 hx;obtain⟨a,b,c⟩:=Ug.1 hn;refine⟨n.toNat,by rw[List.mem_range];omega,?_⟩;unfold sameKey;rw[UN];refine⟨?_,hk⟩;cases e:R.names n.toNat with
      | nil=>exact absurd e c
      | cons _ _=>rfl
     ·rintro⟨n,hn,hk⟩;unfold sameKey at hk;rw[UN]at hk;have WA:R.names n≠[]:=by intro e;rw[e]at hk;exact absurd hk.1 Zd
      rw[List.mem_range]at hn;have h0:n≠0:=by rintro rfl;exact WA hI.P7.1
      exact⟨Pf R n,h.Kq.2 ⟨n,Ug.2 ⟨Zo,Zo,by rw[Wi];exact WA⟩,rfl⟩,by unfold Pf;rw[Wi];exact hk.2⟩
    rw[Z3 (show¬((!may o.name)=true) by rw[hm];simp),Z3 (show¬((!may o.name)=true) by rw[hm];simp),e]
   ·rw[Bool.not_eq_true]at hm;rw[ZU (show((!may o.name)=true) by rw[hm];rfl),ZU (show((!may o.name)=true) by rw[hm];rfl)]
  ·rw[ZU ((h.Xw _).2 hj),ZU rfl]
 rw[Z3 k2,Z3 k2];cases hj:Y5 R o.peer
 ·rw[h.GN hj,ZU Zd,ZU Zd]
 have:=(h.Xw o.peer).2 hj;rw[Z3 (show¬T.Xw o.peer<0 by omega),Z3 (show¬((!true)=true) by decide)];by_cases k3:o.kind=3
 ·rw[ZU k3,ZU k3]
 rw[Z3 k3,Z3 k3];by_cases s1:o.source<1∨8<o.source
 ·rw[ZU s1,ZU (show((!Vv o.source 9)=true) by unfold Vv;simp;omega)]
 have hs:Vv o.source 9=true:=(XI _ _).2 Zo;rw[Z3 s1,Z3 (show¬((!Vv o.source 9)=true) by rw[hs];simp)];have GD:Vg R o.source=(R.src o.source.toNat).there:=by unfold Vg;rw[hs];rfl
 by_cases k4:o.kind=4
 ·rw[ZU k4,ZU k4];unfold ZK.Tn VE;have e1:(0≤T.YL o.source)=((R.src o.source.toNat).there=true):=by rw[←GD];exact propext (h.YL _)
  simp only[e1,h.mL hI]
 rw[Z3 k4,Z3 k4];cases ht:(R.src o.source.toNat).there
 ·rw[ht]at GD;rw[h.vg GD,ZU Zd,ZU Zd]
 rw[ht]at GD;have:=(h.YL o.source).2 GD;rw[Z3 Zo,Z3 Zd,h.VU GD];have hh:Ze R o.peer o.source=(R.sub o.source.toNat o.peer.toNat).there:=by unfold Ze;rw[hp,hs];rfl
 unfold ZK.Xc about;have o1:(Uk R o.source).own=(R.src o.source.toNat).own:=rfl;have o2:(Uk R o.source).ZJ=(R.src o.source.toNat).ZJ:=rfl;simp only[o1,o2];by_cases k5:o.kind=5∨o.kind=8∨o.kind=9
 ·rw[ZU k5,ZU k5];first|done|rfl
 rw[Z3 k5,Z3 k5]
 have elay:ZC R o=if Po (Uk R o.source) o.ZC=true then 0 else 5:=by
  unfold ZC;by_cases hl:o.ZC<0∨((R.src o.source.toNat).ss.length:Int)≤o.ZC
  ·rw[ZU hl,Z3 (by rw[FI];unfold Uk;dsimp only;omega)]
  ·rw[Z3 hl,ZU (by rw[FI];unfold Uk;dsimp only;omega)]
 by_cases k6:o.kind=6
 ·rw[ZU k6,ZU k6];have e2:(0≤T.YZ o.peer o.source)=((R.sub o.source.toNat o.peer.toNat).there=true):=by rw[←hh];exact propext (h.YZ _ _)
  simp only[e2,elay]
 rw[Z3 k6,Z3 k6];unfold heard;dsimp only;cases H_:(R.sub o.source.toNat o.peer.toNat).there
 ·rw[H_]at hh;rw[h.mG hh,ZU Zd,ZU Zd]
 rw[H_]at hh;have:=(h.YZ o.peer o.source).2 hh;rw[Z3 (show¬T.YZ o.peer o.source<0 by omega),Z3 (show¬((!true)=true) by decide),h.N0 hh,elay];dsimp only[Uq];by_cases k10:o.kind=10
 ·by_cases hp:(R.sub o.source.toNat o.peer.toNat).ZV=true <;> simp[k10,hp]
 by_cases k11:o.kind=11
 ·by_cases hp:(R.sub o.source.toNat o.peer.toNat).ZV=true <;> simp[k11,hp]
 by_cases k12:o.kind=12
 ·cases hl:Po (Uk R o.source) o.ZC <;> simp[k12]
 ·simp[k10,k11,k12]
def JC(R:Room){n p:Nat}(hn:1≤n∧n<9)(hp:1≤p∧p<9)(x:Sub)(q m:Int) :
  (if Ze (R.ZO n p x) q m then some (Uq (R.ZO n p x) q m)else none)=if(q,m)=((p:Int),(n:Int))then(if x.there then some (⟨p,n,x.want,x.ZV⟩:Vd)else none)else(if Ze R q m then some (Uq R q m)else none):=by
 by_cases e:(q,m)=((p:Int),(n:Int))
 ·cases e;rw[ZU rfl]
  have h1:Ze (R.ZO n p x) p n=x.there:=by
   unfold Ze;rw[Wi,Wi,VW,(XI _ _).2 Zo,(XI _ _).2 Zo];rfl
  have h2:Uq (R.ZO n p x) p n=⟨p,n,x.want,x.ZV⟩:=by unfold Uq;rw[Wi,Wi,VW]
  rw[h1,h2]
 ·rw[Z3 e];by_cases hi:Vv q 9=true∧Vv m 9=true
  ·have hq:=(XI _ _).1 hi.1;have hm:=(XI _ _).1 hi.2
   have hs:(R.ZO n p x).sub m.toNat q.toNat=R.sub m.toNat q.toNat:=by
    rw[Vy,Z3];rintro⟨h1,h2⟩;apply e;rw[Prod.mk.injEq];omega
   unfold Ze Uq;rw[hs]
  ·have hf:∀R':Room,Ze R' q m=false:=fun R'=>by
    rw[JU,ne_eq,Sc];rintro⟨a,b,c,d,_⟩;exact hi ⟨(XI _ _).2 ⟨a,b⟩,(XI _ _).2 ⟨c,d⟩⟩
   rw[hf,hf];rfl
def JA(R:Room){n:Nat}(hn:1≤n∧n<9)(s:Src)(m:Int) :
  (if Vg (R.YW n s) m then some (Uk (R.YW n s) m)else none)=if m=(n:Int)then(if s.there then some (⟨n,s.own,s.ss,s.ZJ⟩:V4)else none)else(if Vg R m then some (Uk R m)else none):=by
 by_cases e:m=(n:Int)
 ·cases e;rw[ZU rfl];have h0:(R.YW n s).src n=s:=by rw[Wf,ZU rfl]
  have h1:Vg (R.YW n s) n=s.there:=by unfold Vg;rw[Wi,h0,(XI _ _).2 Zo];rfl
  have h2:Uk (R.YW n s) n=⟨n,s.own,s.ss,s.ZJ⟩:=by unfold Uk;rw[Wi,h0]
  rw[h1,h2]
 ·rw[Z3 e];by_cases hi:Vv m 9=true
  ·have hm:=(XI _ _).1 hi;have hs:(R.YW n s).src m.toNat=R.src m.toNat:=by rw[Wf,Z3 Zo]
   unfold Vg Uk;rw[hs]
  ·have hf:∀R':Room,Vg R' m=false:=fun R'=>by unfold Vg;rw[JU,ne_eq,UN];exact fun h=>hi h.1
   rw[hf,hf];rfl
def FU(R:Room){p:Nat}(hp:1≤p∧p<9)(s:List UInt8)(q:Int) :
  (if Y5 (R.setName p s) q then some (Pf (R.setName p s) q)else none)=if q=(p:Int)then(if s≠[]then some (⟨p,s⟩:U1)else none)else(if Y5 R q then some (Pf R q)else none):=by
 by_cases e:q=(p:Int)
 ·cases e;rw[ZU rfl];have h0:(R.setName p s).names p=s:=by rw[XW,ZU rfl]
  have h2:Pf (R.setName p s) p=⟨p,s⟩:=by unfold Pf;rw[Wi,h0]
  rw[h2];by_cases hs:s=[]
  ·rw[Z3 (by rw[Ug,Wi,h0];rintro⟨_,_,h⟩;exact h hs),Z3 (fun h=>h hs)]
  ·rw[ZU (by rw[Ug,Wi,h0];exact⟨Zo,Zo,hs⟩),ZU hs]
 ·rw[Z3 e];by_cases hi:Vv q 9=true
  ·have hm:=(XI _ _).1 hi;have hs:(R.setName p s).names q.toNat=R.names q.toNat:=by rw[XW,Z3 Zo]
   unfold Y5 Pf;rw[hs]
  ·have hf:∀R':Room,Y5 R' q=false:=fun R'=>by unfold Y5;rw[JU,ne_eq,UN];exact fun h=>hi h.1
   rw[hf,hf];rfl
section
variable {T:ZK} {R:Room} (h:Wp T R)
include h
def Wp.Ww{p n:Nat}(hh:Ze R p n=true):Wp (T.Ww p n) (R.ZO n p UW):=by
 obtain⟨i,hi,h1,h2⟩:=h.KQ hh;obtain⟨a,b,c,d,_⟩:=Sc.1 hh;have he:(T.Ww p n).ZX=T.ZX.eraseIdx i:=by unfold ZK.Ww;rw[h1,Wi]
 refine⟨h.up,h.us,by rw[he];exact Li _ h.uu i,h.pe,h.sr,fun q m=>?_⟩;rw[he,J8 uk h.uu hi,JC R Zo Zo,h2,h.su];rfl
def Wp.ZO{p n:Nat}(hh:Ze R p n=true)(x:Sub)(hx:x.there=true):Wp (T.ZO p n ⟨p,n,x.want,x.ZV⟩) (R.ZO n p x):=by
 obtain⟨i,hi,h1,h2⟩:=h.KQ hh;obtain⟨a,b,c,d,_⟩:=Sc.1 hh;have he:(T.ZO p n ⟨p,n,x.want,x.ZV⟩).ZX=T.ZX.set i ⟨p,n,x.want,x.ZV⟩:=by unfold ZK.ZO;rw[h1,Wi]
 have hk:uk ⟨p,n,x.want,x.ZV⟩=uk T.ZX[i]:=by rw[h2];rfl
 refine⟨h.up,h.us,by rw[he];exact zl _ h.uu hi hk,h.pe,h.sr,fun q m=>?_⟩;rw[he,u7 uk h.uu hi hk,JC R Zo Zo,h.su,hx];rfl
def Wp.U6{p n:Nat}(hn:1≤n∧n<9)(hp:1≤p∧p<9)(hh:Ze R p n=false)(x:Sub)(hx:x.there=true):Wp (T.U6 ⟨p,n,x.want,x.ZV⟩) (R.ZO n p x):=by
 have hl:lk uk T.ZX ((p:Int),(n:Int))=none:=by rw[h.su,hh];rfl
 refine⟨h.up,h.us,M4 uk h.uu hl,h.pe,h.sr,fun q m=>?_⟩;show lk uk (T.ZX++[_]) _=_;rw[IY,JC R hn hp,hx];by_cases e:(q,m)=((p:Int),(n:Int))
 ·rw[e,hl,ZU rfl,ZU rfl,show uk ⟨p,n,x.want,x.ZV⟩=((p:Int),(n:Int))from rfl,ZU rfl];rfl
 ·rw[Z3 e,Z3 (fun e'=>e e'.symm),h.su];cases Ze R q m <;> rfl
def Wp.TU{n:Nat}(hh:Vg R n=true):Wp (T.TU n) (R.YW n TU):=by
 obtain⟨i,hi,h1,h2⟩:=h.Mp hh;obtain⟨a,b,_⟩:=Vh.1 hh;have he:(T.TU n).Yb=T.Yb.eraseIdx i:=by unfold ZK.TU;rw[h1,Wi]
 refine⟨h.up,by rw[he];exact Li _ h.us i,h.uu,h.pe,fun m=>?_,h.su⟩;rw[he,J8 _ h.us hi,JA R Zo,h2,h.sr];rfl
def Wp.ZF{n:Nat}(hh:Vg R n=true)(on:Bool):Wp (T.ZF n on) (R.YW n {R.src n with ZJ:=on}):=by
 obtain⟨i,hi,h1,h2⟩:=h.Mp hh;obtain⟨a,b,ht⟩:=Vh.1 hh;rw[Wi]at ht
 have he:(T.ZF n on).Yb=T.Yb.set i ⟨n,(R.src n).own,(R.src n).ss,on⟩:=by
  unfold ZK.ZF;rw[h1,Wi,h.VU hh];rfl
 have hk:V4.num ⟨n,(R.src n).own,(R.src n).ss,on⟩=V4.num T.Yb[i]:=by rw[h2];rfl
 refine⟨h.up,by rw[he];exact zl _ h.us hi hk,h.uu,h.pe,fun m=>?_,h.su⟩;rw[he,u7 _ h.us hi hk,JA R Zo,h.sr];dsimp only;rw[ht];rfl
def Wp.IE{n:Nat}(hn:1≤n∧n<9)(hh:Vg R n=false)(s:Src)(hs:s.there=true):Wp (T.IE ⟨n,s.own,s.ss,s.ZJ⟩) (R.YW n s):=by
 have hl:lk V4.num T.Yb (n:Int)=none:=by rw[h.sr,hh];rfl
 refine⟨h.up,M4 _ h.us hl,h.uu,h.pe,fun m=>?_,h.su⟩;show lk V4.num (T.Yb++[_]) _=_;rw[IY,JA R hn,hs];by_cases e:m=(n:Int)
 ·rw[e,hl,ZU rfl,ZU rfl];rfl
 ·rw[Z3 e,Z3 (fun e'=>e e'.symm),h.sr];cases Vg R m <;> rfl
def Wp.Md{p:Nat}(hp:1≤p∧p<9)(hh:Y5 R p=false)(s:List UInt8)(hs:s≠[]):Wp (T.Md ⟨p,s⟩) (R.setName p s):=by
 have hl:lk U1.num T.Zu (p:Int)=none:=by rw[h.pe,hh];rfl
 refine⟨M4 _ h.up hl,h.us,h.uu,fun m=>?_,h.sr,h.su⟩;show lk U1.num (T.Zu++[_]) _=_;rw[IY,FU R hp,ZU hs];by_cases e:m=(p:Int)
 ·rw[e,hl,ZU rfl,ZU rfl];rfl
 ·rw[Z3 e,Z3 (fun e'=>e e'.symm),h.pe];cases Y5 R m <;> rfl
def Wp.NW{p:Nat}(hh:Y5 R p=true):Wp (T.NW p) (R.setName p []):=by
 obtain⟨i,hi,h1,h2⟩:=h.FX hh;obtain⟨a,b,_⟩:=Ug.1 hh;have he:(T.NW p).Zu=T.Zu.eraseIdx i:=by unfold ZK.NW;rw[h1,Wi]
 refine⟨by rw[he];exact Li _ h.up i,h.us,h.uu,fun m=>?_,h.sr,h.su⟩;rw[he,J8 _ h.up hi,FU R Zo,h2,h.pe,Z3 (fun h=>h rfl:¬([]:List UInt8)≠[])];rfl
end
def Wp.X7(n:Nat):∀(l:List Nat) {T:ZK} {R:Room},Wp T R→l.Nodup→(∀p∈l,Ze R p n=true)→(ZK.X7 n l T).1=(Xe n l R).1∧Wp (ZK.X7 n l T).2 (Xe n l R).2
 | [],T,R,h,_,_=>⟨rfl,h⟩
 | p :: l,T,R,h,hd,hl=>by
  rw[List.nodup_cons]at hd
  have h1:=Wp.X7 n l (h.Ww (hl p (List.mem_cons_self ..))) hd.2 (fun q hq=>by
   have h2:=hl q (List.mem_cons_of_mem _ hq);rw[Uw]at h2 ⊢;refine⟨h2.1,h2.2.1,h2.2.2.1,h2.2.2.2.1,?_⟩;rw[Vy,Z3]
   ·exact h2.2.2.2.2
   ·rintro⟨_,e⟩;exact hd.1 (by rw[←e];exact hq))
  unfold ZK.X7 Xe;exact⟨by dsimp only;rw[h1.1],h1.2⟩
def Wp.gone{T:ZK}{R:Room}(h:Wp T R){n:Nat}(hh:Vg R n=true):(T.Yj n).1=(gone R n).1∧Wp (T.Yj n).2 (gone R n).2:=by
 have hnd:(ZX R n).Nodup:=by rw[←h.Fu];exact Hy T n
 have h1:=Wp.X7 n (ZX R n) h hnd (fun p hp=>(Z1g.1 hp).2);unfold ZK.Yj By.gone;rw[h.Fu];refine⟨h1.1,h1.2.TU ?_⟩;rw[Vh]at hh ⊢;rw[Lm];exact hh
def xK{α β:Type}{f g:α→List β}:∀ {l:List α},(∀x∈l,f x=g x)→l.flatMap f=l.flatMap g
 | [],_=>rfl
 | x :: l,h=>by rw[List.flatMap_cons,List.flatMap_cons,h x (List.mem_cons_self ..),xK fun y hy=>h y (List.mem_cons_of_mem _ hy)]
def PU{R:Room}{n:Nat}:Vg R n=true↔1≤n∧n<9∧(R.src n).there=true:=by
 rw[Vh,Wi];constructor <;> (rintro⟨a,b,c⟩;exact⟨Zo,Zo,c⟩)
def Wp.ZH{p:Nat}(hp:1≤p∧p<9){T:ZK}{R:Room}(h:Wp T R)(h0:∀q,(R.sub 0 q).there=false):∀k,k≤8→(ZK.ZH p T k).1=(By.ZH p R (k+1)).1∧Wp (ZK.ZH p T k).2 (By.ZH p R (k+1)).2
 | 0,_=>by
  rw[Pp];have e:((By.ZH p R 0).2.sub 0 p).there=false:=h0 p;rw[e];exact⟨rfl,h⟩
 | k+1,hk=>by
  obtain⟨h1,h2⟩:=Wp.ZH hp h h0 k Zo;rw[KA,Pp];have hs:=h2.YZ (p:Int) ((k:Int)+1);have e1:((k:Int)+1)=((k+1:Nat):Int):=by omega
  rw[e1]at hs ⊢;cases ht:((By.ZH p R (k+1)).2.sub (k+1) p).there
  ·rw[Z3 (by rw[hs,Uw];rintro⟨_,_,_,_,h⟩;rw[ht]at h;cases h),Z3 Zd];exact⟨h1,h2⟩
  ·have hh:Ze (By.ZH p R (k+1)).2 p (k+1:Nat)=true:=Uw.2 ⟨hp.1,hp.2,Zo,Zo,ht⟩;rw[ZU (hs.2 hh),ZU rfl];exact⟨by dsimp only;rw[h1],h2.Ww hh⟩
def Wp.ZB{p:Nat}(hp:1≤p){T:ZK}{X:Room}(h:Wp T X)(h0:(X.src 0).there=false):∀k,k≤8→(ZK.ZB p T k).1=(By.ZB X p (k+1)).1∧Wp (ZK.ZB p T k).2 (By.ZB X p (k+1)).2
 | 0,_=>by
  rw[Pq,h0];exact⟨rfl,h⟩
 | k+1,hk=>by
  obtain⟨h1,h2⟩:=Wp.ZB hp h h0 k Zo;rw[KE,Pq];have e1:((k:Int)+1)=((k+1:Nat):Int):=by omega
  rw[e1,h2.owner];have Pe:(By.ZB X p (k+1)).2.src (k+1)=X.src (k+1):=by rw[NN,Z3 Zo]
  by_cases ht:(X.src (k+1)).there=true∧(X.src (k+1)).own=p
  ·have hi:Vg (By.ZB X p (k+1)).2 ((k+1:Nat):Int)=true:=PU.2 ⟨Zo,Zo,by rw[Pe];exact ht.1⟩;have hg:=h2.gone hi;rw[hi,ZU rfl,Wi,Pe,ZU ht.2,ZU (by rw[ht.1,ht.2];simp)];exact⟨by dsimp only;rw[h1,hg.1],hg.2⟩
  ·have hn:¬(((X.src (k+1)).there&&decide ((X.src (k+1)).own=(p:Int)))=true):=by
    rw[UN,decide_eq_true_iff];exact ht
   rw[Z3 hn];cases hi:Vg (By.ZB X p (k+1)).2 ((k+1:Nat):Int)
   ·rw[Z3 (show¬(false=true) by decide),Z3 Zo];exact⟨h1,h2⟩
   ·have ht1:(X.src (k+1)).there=true:=by have:=(PU.1 hi).2.2;rwa[Pe]at this
    rw[ZU rfl,Wi,Pe,Z3 (fun e=>ht ⟨ht1,e⟩)];exact⟨h1,h2⟩
def Wp.leave{T:ZK}{R:Room}(h:Wp T R)(hI:Inv R){p:Nat}(hj:Y5 R p=true):(T.leave p).1=(By.leave R p).1∧Wp (T.leave p).2 (By.leave R p).2:=by
 obtain⟨a,b,c⟩:=Ug.1 hj
 obtain⟨h1,h2⟩:=h.ZH (p:=p) Zo (fun q=>by
  rw[JU];intro e;have:=(hI.YZ 0 q e).1;omega) 8 Zo
 have hn:=QU R p 9;obtain⟨h3,h4⟩:=h2.ZB (p:=p) Zo (by rw[hn.2];exact hI.P7.2) 8 Zo;unfold ZK.leave By.leave;refine⟨by dsimp only;rw[h1,h3],h4.NW ?_⟩;rw[Km (R:=R) (by rw[NM,hn.1])];exact hj
def Wp.ask{T:ZK}{R:Room}(h:Wp T R){p n:Nat}(hs:Vg R n=true)(_hh:Ze R p n=true):T.ask (Uq R p n)=asks R p n:=by
 unfold ZK.ask asks;have e:(Uq R p n).source=(n:Int):=rfl;rw[e,h.VU hs];unfold Uk Uq;rw[Wi,Wi]
def Wp.waits{T:ZK}{R:Room}(h:Wp T R){p n:Nat}(hs:Vg R n=true)(hh:Ze R p n=true){t:Yz} :
  (t :: (if(Uq R p n).ZV||(T.VU n).ZJ then[]else[T.ask (Uq R p n)]))=t :: By.waits R p n:=by
 rw[h.ask hs hh,h.VU hs];unfold By.waits Uq Uk;rw[Wi,Wi]
def Wp.mute{T:ZK}{R:Room}(h:Wp T R){n:Nat}(hs:Vg R n=true)(on:Bool):(T.mute n on).1=(By.mute R n on).1∧Wp (T.mute n on).2 (By.mute R n on).2:=by
 have h1:=h.ZF hs on;refine⟨?_,h1⟩;unfold ZK.mute By.mute;dsimp only;rw[h1.Fu];generalize hR1:R.YW n {R.src n with ZJ:=on}=R1 at *;have kI:(R1.src n).ZJ=on:=by rw[←hR1,Wf,ZU rfl]
 have cD:Vg R1 n=true:=by
  rw[PU]at hs ⊢;exact⟨hs.1,hs.2.1,by rw[←hR1,Wf,ZU rfl];exact hs.2.2⟩
 apply xK;intro p hp;have hh:Ze R1 p n=true:=(Z1g.1 hp).2;unfold ZK.YO YO;cases on
 ·rw[Z3 (show¬(false=true) by decide),Z3 (show¬(false=true) by decide),h1.N0 hh,h1.ask cD hh];unfold By.waits;rw[kI,Bool.or_false];unfold Uq;rw[Wi,Wi]
 ·rfl
def pC{R:Room}(hI:Inv R){p n:Nat}(hh:Ze R p n=true):Vg R n=true:=by
 obtain⟨_,_,c,d,e⟩:=Uw.1 hh;exact PU.2 ⟨c,d,(hI.YZ n p e).2.2.2.2.1⟩
def NA{T:ZK}{R:Room}(h:Wp T R){p n:Nat}{kd la:Int}{nm:List UInt8}{ss:List Int}(hh:Ze R p n=true)(k:Int) :
  T.changed ⟨kd,p,n,la,nm,ss⟩ k=(if k=4 then⟨p,n,(R.sub n p).want,true⟩else if k=5 then⟨p,n,(R.sub n p).want,false⟩else⟨p,n,la,(R.sub n p).ZV⟩):=by
 unfold ZK.changed;dsimp only;rw[h.N0 hh];unfold Uq;rw[Wi,Wi]
def Wp.change{T:ZK}{R:Room}(h:Wp T R)(hI:Inv R){p n:Nat}{kd la:Int}{nm:List UInt8}{ss:List Int}(hh:Ze R p n=true)(k:Int)(x:Sub)(hx:x.there=true)(hc:T.changed ⟨kd,p,n,la,nm,ss⟩ k=⟨p,n,x.want,x.ZV⟩) :
  (T.change ⟨kd,p,n,la,nm,ss⟩ k).1=⟨k,p,n,if k=8 then la else 0,0⟩ :: By.waits (R.ZO n p x) p n∧Wp (T.change ⟨kd,p,n,la,nm,ss⟩ k).2 (R.ZO n p x):=by
 have h1:=h.ZO hh x hx;have hs:=pC hI hh;have cD:Vg (R.ZO n p x) n=true:=hs
 have hh1:Ze (R.ZO n p x) p n=true:=by
  rw[Uw]at hh ⊢;exact⟨hh.1,hh.2.1,hh.2.2.1,hh.2.2.2.1,by rw[VW];exact hx⟩
 have nE:Uq (R.ZO n p x) p n=⟨p,n,x.want,x.ZV⟩:=by unfold Uq;rw[Wi,Wi,VW]
 have hw:=h1.waits cD hh1 (t:=⟨k,p,n,if k=8 then la else 0,0⟩);rw[nE]at hw;unfold ZK.change;dsimp only;rw[hc];exact⟨hw,h1⟩
def Wp.turns{T:ZK}{R:Room}(h:Wp T R)(hI:Inv R){o:Op}(ok:Ok R o)(sv:Value):(T.turns o).1=(turns R o sv).1∧Wp (T.turns o).2 (turns R o sv).2:=by
 obtain⟨kd,p,n,la,nm,ss⟩:=o;obtain⟨hk,hp,hj,ht,hs,ue,fI,Lr⟩:=ok;dsimp only at *;obtain⟨p,rfl⟩:=RV (show 0≤p by omega);by_cases k2:kd=2
 ·subst k2;obtain⟨h1,h2,h3⟩:=rW (hj rfl);rw[show T.turns ⟨2,p,n,la,nm,ss⟩=([],T.Md ⟨p,nm⟩)from rfl,show By.turns R ⟨2,p,n,la,nm,ss⟩ sv=([],R.setName p nm) by simp[By.turns]];exact⟨rfl,h.Md (p:=p) Zo h1 nm (lR h2)⟩
 have hj1:=ht k2;by_cases k3:kd=3
 ·subst k3;rw[show T.turns ⟨3,p,n,la,nm,ss⟩=T.leave p from rfl,show By.turns R ⟨3,p,n,la,nm,ss⟩ sv=By.leave R p by simp[By.turns]];exact h.leave hI hj1
 obtain⟨n,rfl⟩:=RV (show 0≤n by have:=hs Zo;omega);have hn:=hs Zo;by_cases k4:kd=4
 ·subst k4;obtain⟨_,_,_,h4,_,_⟩:=F3 (ue rfl)
  have N_:Vg R n=false:=by
   rw[JU,ne_eq,Vh];rintro⟨_,_,c⟩;dsimp only at h4;rw[h4]at c;cases c
  rw[show T.turns ⟨4,p,n,la,nm,ss⟩=([],T.IE ⟨n,p,ss,false⟩)from rfl,show By.turns R ⟨4,p,n,la,nm,ss⟩ sv=([],R.YW n ⟨true,n,p,sv,ss,false⟩) by simp[By.turns]];exact⟨rfl,h.IE (n:=n) Zo N_ ⟨true,n,p,sv,ss,false⟩ rfl⟩
 have gY:=fI Zo;have Ry:=Lr Zo;rw[Wi]at gY;have kR:Vg R n=true:=PU.2 ⟨Zo,Zo,gY⟩;by_cases k5:kd=5
 ·subst k5;rw[show T.turns ⟨5,p,n,la,nm,ss⟩=T.Yj n from rfl,show By.turns R ⟨5,p,n,la,nm,ss⟩ sv=By.gone R n by simp[By.turns]];exact h.gone kR
 by_cases k6:kd=6
 ·subst k6;obtain⟨h1,h2,h3⟩:=Oe Ry rfl;dsimp only at h1 h2 h3;rw[Wi,Wi]at h2
  have N_:Ze R p n=false:=by
   rw[JU,ne_eq,Uw];rintro⟨_,_,_,_,e⟩;rw[h2]at e;cases e
  have GG:=h.U6 (p:=p) (n:=n) Zo Zo N_ ⟨true,false,la⟩ rfl;have hsI2:Vg (R.ZO n p ⟨true,false,la⟩) n=true:=kR;have hh2:Ze (R.ZO n p ⟨true,false,la⟩) p n=true:=Uw.2 ⟨Zo,Zo,Zo,Zo,by rw[VW]⟩;rw[show T.turns ⟨6,p,n,la,nm,ss⟩=T.subscribe ⟨6,p,n,la,nm,ss⟩from rfl,show By.turns R ⟨6,p,n,la,nm,ss⟩ sv=begin R ⟨6,p,n,la,nm,ss⟩ by simp[By.turns]];refine⟨?_,by unfold begin;dsimp only;rw[Wi,Wi];exact GG⟩;unfold ZK.subscribe begin;dsimp only;rw[GG.VU hsI2];have nE:Uq (R.ZO n p ⟨true,false,la⟩) p n=⟨p,n,la,false⟩:=by unfold Uq;rw[Wi,Wi,VW]
  have ha:=GG.ask hsI2 hh2;rw[nE]at ha;rw[ha];unfold Uk;rw[Wi,Wi];rfl
 by_cases k8:kd=8
 ·subst k8;rw[show T.turns ⟨8,p,n,la,nm,ss⟩=T.mute n true from rfl,show By.turns R ⟨8,p,n,la,nm,ss⟩ sv=By.mute R n true by simp[By.turns]];exact h.mute kR true
 by_cases k9:kd=9
 ·subst k9;rw[show T.turns ⟨9,p,n,la,nm,ss⟩=T.mute n false from rfl,show By.turns R ⟨9,p,n,la,nm,ss⟩ sv=By.mute R n false by simp[By.turns]];exact h.mute kR false
 have H_:=Tf Ry TQ
 have cd:Ze R p n=true:=by
  have:=H_.1;dsimp only at this;rw[Wi,Wi]at this;exact Uw.2 ⟨Zo,Zo,Zo,Zo,this⟩
 have hthe:=(Uw.1 cd).2.2.2.2;by_cases k7:kd=7
 ·subst k7;rw[show T.turns ⟨7,p,n,la,nm,ss⟩=([⟨2,p,n,0,0⟩],T.Ww p n)from rfl,show By.turns R ⟨7,p,n,la,nm,ss⟩ sv=([⟨2,p,n,0,0⟩],R.ZO n p UW) by simp[By.turns]];exact⟨rfl,h.Ww cd⟩
 by_cases k10:kd=10
 ·subst k10;have hc:=NA h (kd:=10) (la:=la) (nm:=nm) (ss:=ss) cd 4;rw[ZU rfl]at hc;rw[show T.turns ⟨10,p,n,la,nm,ss⟩=T.change ⟨10,p,n,la,nm,ss⟩ 4 from rfl,show By.turns R ⟨10,p,n,la,nm,ss⟩ sv=([⟨4,p,n,0,0⟩],R.ZO n p {R.sub n p with ZV:=true}) by simp[By.turns]];have:=h.change hI (kd:=10) (la:=la) (nm:=nm) (ss:=ss) cd 4 {R.sub n p with ZV:=true} hthe hc;have GC:=this.1;have hwt:By.waits (R.ZO n p {R.sub n p with ZV:=true}) p n=[]:=by unfold By.waits;rw[VW];rfl
  rw[Z3 Zd,hwt]at GC;exact⟨GC,this.2⟩
 by_cases k11:kd=11
 ·subst k11;have hc:=NA h (kd:=11) (la:=la) (nm:=nm) (ss:=ss) cd 5;rw[Z3 Zd,ZU rfl]at hc;rw[show T.turns ⟨11,p,n,la,nm,ss⟩=T.change ⟨11,p,n,la,nm,ss⟩ 5 from rfl,show By.turns R ⟨11,p,n,la,nm,ss⟩ sv=(⟨5,p,n,0,0⟩ :: By.waits (R.ZO n p {R.sub n p with ZV:=false}) p n,R.ZO n p {R.sub n p with ZV:=false}) by simp[By.turns]];have:=h.change hI (kd:=11) (la:=la) (nm:=nm) (ss:=ss) cd 5 {R.sub n p with ZV:=false} hthe hc;have GC:=this.1;rw[Z3 Zd]at GC;exact⟨GC,this.2⟩
 ·obtain rfl:kd=12:=by omega
  have hc:=NA h (kd:=12) (la:=la) (nm:=nm) (ss:=ss) cd 8;rw[Z3 Zd,Z3 Zd]at hc;rw[show T.turns ⟨12,p,n,la,nm,ss⟩=T.change ⟨12,p,n,la,nm,ss⟩ 8 from rfl,show By.turns R ⟨12,p,n,la,nm,ss⟩ sv=(⟨8,p,n,la,0⟩ :: By.waits (R.ZO n p {R.sub n p with want:=la}) p n,R.ZO n p {R.sub n p with want:=la}) by simp[By.turns]];have:=h.change hI (kd:=12) (la:=la) (nm:=nm) (ss:=ss) cd 8 {R.sub n p with want:=la} hthe hc;have GC:=this.1;rw[ZU rfl]at GC;exact⟨GC,this.2⟩
def Wp.Wq{T:ZK}{R:Room}(h:Wp T R)(hI:Inv R)(o:Op)(sv:Value):(T.Wq o).1.1=(Wq R o sv).1.1∧(T.Wq o).2=(Wq R o sv).2∧Wp (T.Wq o).1.2 (Wq R o sv).1.2:=by
 unfold ZK.Wq By.Wq;rw[h.zH hI];by_cases hw:XQ R o≠0
 ·rw[ZU hw,ZU hw];exact⟨rfl,rfl,h⟩
 ·rw[Z3 hw,Z3 hw];have:=h.turns hI (O4 (Classical.not_not.1 hw)) sv;exact⟨this.1,rfl,this.2⟩
def Wp.YM{T:ZK}{R:Room}(h:Wp T R)(hI:Inv R)(p x:Int):(T.YM p x).1.1=(YM R p x).1.1∧(T.YM p x).2=(YM R p x).2∧Wp (T.YM p x).1.2 (YM R p x).1.2:=by
 unfold ZK.YM By.YM;rw[h.of_eq hI,h.owner];cases ho:(of R x).2.2
 ·exact⟨rfl,rfl,h⟩
 ·obtain⟨m,hm,ht,hx,he⟩:=Pr ho;obtain⟨AW,_⟩:=hI.YL m ht;have hs:Vg R (m:Int)=true:=PU.2 ⟨AW,hm,ht⟩;rw[he];dsimp only;rw[hs,ZU rfl,Wi];cases hj:Y5 R p
  ·rw[h.GN hj];exact⟨rfl,rfl,h⟩
  ·have hpp:=(h.Xw p).2 hj;have e1:decide (T.Xw p<0)=false:=WH Zo;rw[e1];by_cases Yy:(R.src m).own=p
   ·have e2:decide ((R.src m).own≠p)=false:=WH (by simp[Yy]);rw[e2];have hg:=h.gone hs;exact⟨hg.1,rfl,hg.2⟩
   ·have e2:decide ((R.src m).own≠p)=true:=WV Yy;rw[e2];exact⟨rfl,rfl,h⟩
def Wp.ok{T:ZK}{R:Room}(h:Wp T R)(hI:Inv R){o:Op}(hw:T.XQ o=0):og T o:=by
 have ok:=O4 (show XQ R o=0 by rw[←h.zH hI];exact hw);obtain⟨kd,p,n,la,nm,ss⟩:=o;obtain⟨hk,hp,hj,ht,hs,ue,fI,Lr⟩:=ok;dsimp only at *;have Pe:5≤kd→Vg R n=true:=fun fK=>Vh.2 ⟨(hs Zo).1,(hs Zo).2,fI fK⟩
 have hsub:kd=7∨10≤kd→Ze R p n=true:=fun Ck=>by
  have H_:=(Tf (Lr Zo) TQ).1;have:=hs Zo;exact Sc.2 ⟨hp.1,hp.2,this.1,this.2,H_⟩
 have SK:∀q m:Int,Ze R q m=true→0≤(R.sub m.toNat q.toNat).want∧(R.sub m.toNat q.toNat).want<(R.src m.toNat).ss.length:=fun q m hh=>by
  have:=hI.YZ m.toNat q.toNat (Sc.1 hh).2.2.2.2;exact⟨this.2.2.2.2.2.2.2.1,this.2.2.2.2.2.2.2.2⟩
 refine⟨hk,hp.1,fun hk4=>?_,fun hk3=>(h.Xw p).2 (ht (by have h3:kd=3:=hk3;omega)),fun fK=>(h.YL n).2 (Pe fK),fun hk6=>?_,fun Ck=>(h.YZ p n).2 (hsub Ck),fun Uu=>?_,?_⟩
 ·exact(F3 (ue hk4)).2.1
 ·have hk6:kd=6:=hk6;have h3:=(Oe (Lr Zo) hk6).2.2;have:=OD h3;dsimp only;rw[h.VU (Pe Zo)];exact this
 ·intro x hx hxn;dsimp only at hxn ⊢;have Uu:kd=9:=Uu;have kR:=Pe Zo;obtain⟨m,rfl⟩:=RV (show 0≤n by have:=(Vh.1 kR).1;omega);have h1:=h.ZF kR false
  have hsI1:Vg (R.YW m {R.src m with ZJ:=false}) m=true:=by
   rw[PU]at kR ⊢;exact⟨kR.1,kR.2.1,by rw[Wf,ZU rfl];exact kR.2.2⟩
  refine⟨(h1.YL _).2 hsI1,?_⟩;have Nv:=(h.GL (x:=x)).1 hx;rw[h1.VU hsI1,Nv.2];unfold Uk Uq;dsimp only;rw[hxn,Wi,Wf,ZU rfl];have:=SK x.peer x.source Nv.1;rw[hxn,Wi]at this;exact this
 ·intro k hkk;have hkk:kd=10∧k=4∨kd=11∧k=5∨kd=12∧k=8:=hkk;have kD:kd=7∨10≤kd:=by omega
  have hh:=hsub kD;have hw2:=SK p n hh;obtain⟨p,rfl⟩:=RV (show 0≤p by omega);obtain⟨n,rfl⟩:=RV (show 0≤n by have:=hs Zo;omega);rw[NA h hh k];dsimp only;rw[h.VU (Pe Zo)];unfold Uk;dsimp only;rw[Wi,Wi]at hw2;rw[Wi];rcases hkk with⟨_,rfl⟩|⟨_,rfl⟩|⟨h12,rfl⟩
  ·exact hw2
  ·exact hw2
  ·have h4:=(Tf (Lr Zo) TQ).2.2.2 h12;have h5:=OD h4.1;dsimp only at h5;rw[Wi]at h5;exact h5
def KY{α κ:Type}[DecidableEq κ](key:α→κ):∀(l:List α) (K:List κ),Nc key l→(∀x∈l,key x∈K)→l.length≤K.length
 | [],_,_,_=>Tv _
 | x :: l,K,hu,hk=>by
  obtain⟨h1,h2⟩:=(OZ key).1 hu;have hx:=hk x (List.mem_cons_self ..);have:=KY key l (K.erase (key x)) h2 (fun y hy=>(List.mem_erase_of_ne (h1 y hy)).2 (hk y (List.mem_cons_of_mem _ hy)));rw[List.length_erase_of_mem hx]at this;have hp:0<K.length:=List.length_pos_of_mem hx;rw[List.length_cons];omega
def Wp.small{T:ZK}{R:Room}(h:Wp T R):T.Small:=by
 have hm:∀n:Int,1≤n→n<9→n∈[(1:Int),2,3,4,5,6,7,8]:=fun n h1 h2=>by
  have:n=1∨n=2∨n=3∨n=4∨n=5∨n=6∨n=7∨n=8:=by omega
  rcases this with rfl|rfl|rfl|rfl|rfl|rfl|rfl|rfl <;> simp
 refine⟨?_,?_,?_⟩
 ·refine PJ (KY U1.num T.Zu [1,2,3,4,5,6,7,8] h.up fun x hx=>?_) Zd;obtain⟨n,hn,rfl⟩:=h.Kq.1 hx;have:=Ug.1 hn;exact hm n this.1 this.2.1
 ·refine PJ (KY V4.num T.Yb [1,2,3,4,5,6,7,8] h.us fun x hx=>?_) Zd;obtain⟨n,hn,rfl⟩:=h.A6.1 hx;have:=Vh.1 hn;exact hm n this.1 this.2.1
 ·refine PJ (KY uk T.ZX ([(1:Int),2,3,4,5,6,7,8].flatMap fun p=>[(1:Int),2,3,4,5,6,7,8].map fun n=>(p,n)) h.uu fun x hx=>?_) Zd;have:=Sc.1 (h.GL.1 hx).1;rw[List.mem_flatMap];exact⟨x.peer,hm _ this.1 this.2.1,vS.2 ⟨x.source,hm _ this.2.2.1 this.2.2.2.1,rfl⟩⟩
def Wp.names{T:ZK}{R:Room}(h:Wp T R)(hI:Inv R):∀x∈T.Zu,x.name.length<9223372036854775807:=fun x hx=>by
 obtain⟨n,_,rfl⟩:=h.Kq.1 hx;exact Il hI _
def Dt:Wp ⟨[],[],[]⟩ empty:=by
 have hj:∀p,Y5 empty p=false:=fun p=>by rw[JU,ne_eq,Ug];rintro⟨_,_,h⟩;exact h rfl
 have hs:∀n,Vg empty n=false:=fun n=>by rw[JU,ne_eq,Vh];rintro⟨_,_,h⟩;cases h
 have hh:∀p n,Ze empty p n=false:=fun p n=>by rw[JU,ne_eq,Sc];rintro⟨_,_,_,_,h⟩;cases h
 exact⟨List.nodup_nil,List.nodup_nil,List.nodup_nil,fun p=>by rw[hj];rfl,fun n=>by rw[hs];rfl,fun p n=>by rw[hh];rfl⟩
def sk(b:Nat)(T:ZK)(R:Room)(o:Op)(sv:Value)(sa ba:Option Addr)(sc bl bc:Nat)(w:World)(hR:ZI w b T)(hs:Wp T R)(hI:Inv R)(hT:Xn w)(UD:o.name.length<9223372036854775807)
  (ZW:XG w (.slice sa o.ZG.length sc) o.ZG.length (bd o.ZG)) :
  Calls prog 72 (Qi (some ⟨b,0,none⟩) (Jr o sa o.ZG.length sc ba bl bc)) w fun e w'=>
   (∃v,e = .returned (.tuple #[v,.int .i64 (Wq R o sv).2])∧Yx w' v (Wq R o sv).1.1)∧(∃T',ZI w' b T'∧Wp T' (Wq R o sv).1.2)∧Fr w (· = b) w w':=by
 obtain⟨h1,h2,h3⟩:=hs.Wq hI o sv;refine(gm b T o sa ba sc bl bc w hR hs.small hT UD (hs.names hI) ZW (fun h=>hs.ok hI h)).mono ?_;rintro e w' ⟨⟨v,rfl,ZW⟩,UG,Wb⟩;rw[h1]at ZW;rw[h2];exact⟨⟨v,rfl,ZW⟩,⟨_,UG,h3⟩,Wb⟩
def Dj(b:Nat)(T:ZK)(R:Room)(p x:Int)(w:World)(hR:ZI w b T)(hs:Wp T R)(hI:Inv R) :
  Calls prog 104 (Jd (some ⟨b,0,none⟩) p x) w fun e w'=>
   (∃v,e = .returned (.tuple #[v,.int .i64 (YM R p x).2])∧Yx w' v (YM R p x).1.1)∧(∃T',ZI w' b T'∧Wp T' (YM R p x).1.2)∧Fr w (· = b) w w':=by
 obtain⟨h1,h2,h3⟩:=hs.YM hI p x;refine(qo b T p x w hR hs.small).mono ?_;rintro e w' ⟨⟨v,rfl,ZW⟩,UG,Wb⟩;rw[h1]at ZW;rw[h2];exact⟨⟨v,rfl,ZW⟩,⟨_,UG,h3⟩,Wb⟩
def Ps(n at':Int)(T:ZK)(ls:List Zt)(x:Vd):List Zt:=if 0≤T.YZ x.peer x.source then ls else XB n at' (fun k=>decide (k=(x.peer,x.source))) ls
def Rh(n at':Int)(T:ZK)(was:List Vd)(ls:List Zt):List Zt:=was.foldl (Ps n at' T) ls
def Mm(n at':Int)(T:ZK):∀(was:List Vd) (ls:List Zt),(Rh n at' T was ls).length=ls.length
 | [],_=>rfl
 | x :: was,ls=>by
  show(Rh n at' T was (Ps n at' T ls x)).length=_;rw[Mm];unfold Ps;split
  ·rfl
  ·unfold XB;rw[Te]
def uE(n at':Int)(T:ZK)(was:List Vd)(x:Vd)(ls:List Zt):Rh n at' T (was++[x]) ls=Ps n at' T (Rh n at' T was ls) x:=by
 unfold Rh;rw[List.foldl_append];rfl
def Di{n at':Int}(V5:at'≠n)(T:ZK):∀(was:List Vd) (ls:List Zt),Rh n at' T was ls=XB n at' (fun k=>was.any fun x=>decide (T.YZ x.peer x.source<0)&&decide (k=(x.peer,x.source))) ls
 | [],ls=>(S5 fun _ _ _=>rfl).symm
 | x :: was,ls=>by
  show Rh n at' T was (Ps n at' T ls x)=_;rw[Di V5 T was];unfold Ps;by_cases h:0≤T.YZ x.peer x.source
  ·rw[ZU h];refine QS fun z _ _=>?_
   rw[List.any_cons,WH Zo];rfl
  ·rw[Z3 h,E8 V5];refine QS fun z _ _=>?_
   rw[List.any_cons,WV (show T.YZ x.peer x.source<0 by omega)];rfl
def I4{n at':Int}(V5:at'≠n){T T':ZK}{R R':Room}(h:Wp T R)(h':Wp T' R')(ls:List Zt):Rh n at' T' T.ZX ls=XB n at' (fun k=>opens R k && !opens R' k) ls:=by
 rw[Di V5];refine QS fun z _ _=>?_
 rw[Bool.eq_iff_iff,List.any_eq_true,UN,Bool.not_eq_true'];constructor
 ·rintro⟨x,hx,hc⟩;rw[UN,Su,Su]at hc;rw[hc.2];refine⟨(h.GL.1 hx).1,?_⟩;show Ze R' x.peer x.source=false;rw[JU];intro hh;have:=(h'.YZ x.peer x.source).2 hh;omega
 ·rintro⟨h1,h2⟩;refine⟨Uq R (Wo z).1 (Wo z).2,h.GL.2 ⟨h1,rfl⟩,?_⟩;rw[UN,Su,Su];refine⟨?_,rfl⟩;show T'.YZ (Wo z).1 (Wo z).2<0
  have h3:¬0≤T'.YZ (Wo z).1 (Wo z).2:=fun hh=>by
   have:=(h'.YZ _ _).1 hh;have h2:Ze R' (Wo z).1 (Wo z).2=false:=h2;rw[this]at h2;cases h2
  omega
def TD(n at':Int)(T T':ZK)(ak:Int)(o:Op)(ls:List Zt):List Zt:=Rh n at' T' T.ZX ls++if ak=2∧o.kind=6 then[⟨o.peer,o.source,at',n⟩]else[]
def yx{n at':Int}(V5:at'≠n){T T':ZK}{R:Room}(h:Wp T R)(h':Wp T' R)(ls:List Zt):Rh n at' T' T.ZX ls=ls:=by
 rw[I4 V5 h h'];refine S5 fun z _ _=>?_
 cases opens R (Wo z) <;> rfl
def uy{n at':Int}(V5:at'≠n){R:Room}(hI:Inv R)(hs:Wc R){T T':ZK}(h:Wp T R)(ep:Int)(o:Op)(b:List UInt8)(sv:Value)(h':Wp T' (take R ep o b sv).1.2){ls:List Zt}(hl:LI n (opens R) ls) :
  W8 n at' ls (take R ep o b sv).1.1.turns=TD n at' T T' (take R ep o b sv).1.1.XR.kind o ls∧LI n (opens (take R ep o b sv).1.2) (W8 n at' ls (take R ep o b sv).1.1.turns):=by
 have still:∀ak,Wp T' R→¬(ak=2∧o.kind=6)→W8 n at' ls []=TD n at' T T' ak o ls∧LI n (opens R) (W8 n at' ls []):=fun ak cC hk=>by
  unfold TD;rw[yx V5 h cC,Z3 hk,rC];exact⟨rfl,hl⟩
 have ends:∀ts R' ak,Wp T' R'→¬(ak=2∧o.kind=6)→Good (opens R) ts (opens R')→(∀t∈ts,t.kind≠1)→W8 n at' ls ts=TD n at' T T' ak o ls∧LI n (opens R') (W8 n at' ls ts):=fun ts R' ak cC hk hg hb=>by
  obtain⟨g1,g2⟩:=hg;have h1:=QV V5 ts (opens R) ls hl g1 hb;rw[g2]at h1;unfold TD;rw[I4 V5 h cC,Z3 hk,rC];exact h1
 by_cases k1:o.kind=1
 ·have e:take R ep o b sv=YD R ep o.peer b:=by unfold take;rw[ZU k1]
  rw[e]at h' ⊢;unfold YD at h' ⊢;have k6:∀ak,¬(ak=(2:Int)∧o.kind=6):=fun ak hk=>by omega
  by_cases h1:(XX b).2≠0
  ·rw[ZU h1]at h' ⊢;exact still _ h' (k6 _)
  rw[Z3 h1]at h' ⊢;by_cases h2:(!Y5 R o.peer)=true
  ·rw[ZU h2]at h' ⊢;exact still _ h' (k6 _)
  rw[Z3 h2]at h' ⊢;cases hv:(XX b).1 with
  | none=>rw[hv]at h';exact still _ h' (k6 _)
  | XS p d=>
   rw[hv]at h';have e2:(VK R ep o.peer p d).turns=[]:=by unfold VK;split <;> rfl
   dsimp only at h' ⊢;rw[e2];exact still _ h' (k6 _)
  | X4 l=>
   rw[hv]at h'
   have hfe:l=(Yl b).1:=by
    by_cases h3:192≤at8 b 1∧at8 b 1≤223
    ·have:=OT h3 Zo;rw[this]at hv;injection hv with hv
     exact hv.symm
    ·exact aS
   have V9:=(S9 b).1;rw[←hfe]at V9;have hg:=NH o.peer l R hI hs V9;exact ends _ _ _ h' (k6 _) hg.1 hg.2
 ·have e:take R ep o b sv=if(Wq R o sv).2≠0 then((Ya 6 (Wq R o sv).2,R),ep)else((Uc (ep+1) [] (Wq R o sv).1.1 0,(Wq R o sv).1.2),ep+1):=by unfold take;rw[Z3 k1]
  rw[e]at h' ⊢;by_cases h1:(Wq R o sv).2≠0
  ·rw[ZU h1]at h' ⊢;exact still _ h' (fun hk=>absurd hk.1 (by show(6:Int)≠2;decide))
  rw[Z3 h1]at h' ⊢;have hg:=xJ hI o sv;by_cases k6:o.kind=6
  ·have hd:Wq R o sv=(turns R o sv,0):=by
    unfold Wq at h1 ⊢;split
    ·next hx=>rw[ZU hx]at h1;exact absurd hx (by simpa using h1)
    ·rfl
   have ht:turns R o sv=begin R o:=by
    unfold turns;dsimp only;rw[Z3 Zo,Z3 Zo,Z3 Zo,Z3 Zo,ZU k6]
   rw[hd,ht]at h' hg ⊢;dsimp only[Uc]at h' hg ⊢;obtain⟨g1,g2⟩:=hg
   obtain⟨t2,ht2,AU⟩:∃t2:Yz,(begin R o).1=[⟨1,o.peer,o.source,o.ZC,0⟩,t2]∧(t2.kind=6∨t2.kind=9):=by
    unfold begin;dsimp only;split
    ·exact⟨_,rfl,WQ rfl⟩
    ·exact⟨_,rfl,WG rfl⟩
   rw[ht2]at g1 g2 ⊢
   have hS:opens R (o.peer,o.source)=false:=by
    have:=g1.1;unfold oW at this;rw[ZU rfl]at this;have:=(UN _ _ |>.mp this).2;simpa[QT]using this
   have e1:W8 n at' ls [⟨1,o.peer,o.source,o.ZC,0⟩,t2]=ls++[⟨o.peer,o.source,at',n⟩]:=by
    show Ym n at' (Ym n at' ls ⟨1,o.peer,o.source,o.ZC,0⟩) t2=_;have a1:Ym n at' ls ⟨1,o.peer,o.source,o.ZC,0⟩=ls++[⟨o.peer,o.source,at',n⟩]:=rfl;rw[a1];unfold Ym;rw[Z3 Zo,Z3 Zo]
   have e2:opens (begin R o).2=fun x=>decide (x=(o.peer,o.source))||opens R x:=by
    exact bq
   rw[e1];refine⟨?_,by rw[e2];exact hl.begin o.peer o.source at' hS⟩;unfold TD;rw[I4 V5 h h',ZU ⟨rfl,k6⟩,e2,S5];intro z _ _;show(opens R (Wo z) && !(decide _||opens R (Wo z)))=false;cases opens R (Wo z) <;> simp
  ·have hb:∀t∈(Wq R o sv).1.1,t.kind≠1:=by
    unfold Wq;split
    ·intro t ht;cases ht
    ·exact Im R o sv k6
   exact ends _ _ _ h' (fun hk=>k6 hk.2) hg hb
def Dn{T:ZK}{R:Room}(h:Wp T R)(hI:Inv R)(p x:Int):((T.of x).2.2=true∧T.owner (T.of x).1=p)↔owned R p x=true:=by
 rw[h.of_eq hI];unfold owned;rw[UN,Su];refine and_congr_right fun ho=>?_
 obtain⟨m,hm,ht,_,he⟩:=Pr ho;have hn:=hI.YL m ht;rw[he];show T.owner (m:Int)=p↔(R.src ((m:Int)).toNat).own=p;rw[h.owner,ZU (Vh.2 ⟨Zo,Zo,by simpa using ht⟩)]
def qy{T:ZK}{R:Room}(h:Wp T R)(p x:Int):((UY x).2.2=true∧(UY x).1=p∧0≤T.YZ (UY x).1 (UY x).2.1)↔Ul R p x=true:=by
 unfold Ul;rw[UN,UN,Su,and_assoc];refine and_congr_right fun _=>and_congr_right fun e=>?_
 rw[h.YZ,e]
def Ev.kd:Ev→Int | .none=>0 | .XS _ _=>1 | .X4 _=>2
def Ev.pk:Ev→JR | .none=>WT | .XS p _=>p | .X4 _=>WT
def Ev.ds:Ev→Eu | .none=>S_ | .XS _ d=>d | .X4 _=>S_
def Ev.il:Ev→List Rc | .none=>[] | .XS _ _=>[] | .X4 l=>l
def DY(o:Op)(b:List UInt8):Ev:=if o.kind=1 then(XX b).1 else .none
def VQ(L:List WR)(k:Nat):Ev:=match L[k]? with
 | some y=>DY y.x.o y.b
 | none=> .none
def Fe(L:List WR)(k:Nat):List Ev:=(List.range k).map (VQ L)
def tP(L:List WR)(k:Nat):Fe L (k+1)=Fe L k++[VQ L k]:=by unfold Fe;rw[ny,Ng];rfl
def Pb(L:List WR):Nat→QN
 | 0=>lT
 | k+1=>(Pb L k).add (Z6 L k).XR.kind (Z6 L k).unknown
def gi{base:Nat}{e:TypeId}{size:Nat}{v:Value}{n:Nat}{xs:List Value}{w:World}(h:w.ownsRow base e size v n xs):∀k,v.ownBlock=some k→k<w.heap.size:=by
 intro k hk;obtain⟨_,h⟩:=h;rcases h with⟨rfl,_⟩|⟨g,cap,cur,rfl,hg,hh,_⟩
 ·cases hk
 ·have hk:some g=some k:=hk;cases hk;exact rR hh
def Bf(v:Value)(b:List UInt8)(w:World)(hv:XU w v b)(h0:(right b).2=0) :
  Calls prog 170 #[v] w fun e w'=>(∃a,e = .returned (.tuple #[a,.int .i64 (XP b).1.2,.int .i64 (XP b).2])∧SH w' a (XP b).1.1)∧Below w w w':=by
 have HX:Hid (XP b=((report b,(right b).1),0)):=by show _=_;unfold XP;rw[Z3 (by simp[h0])]
 have C:=fun w1 h=>Dp v b w1 (hv.below (h:Below w w w1))
 have HC:=Zh C;have HV:Hid (∀w',Below w w w'→XU w' v b):=fun w' h=>hv.below h
 have hb4':=(F6 h0).1;obtain⟨g,off,c,rfl,Rt,x8,WO⟩:=Rk hv Zo;clear C hv;obtain⟨S0,hk,h15,-,hlen⟩:=F6 h0;generalize XP b=X at *;generalize right b=Y at *;obtain⟨Y1,Y2⟩:=Y;obtain rfl:Y2=0:=h0;go_enter func170,ntmps170;go_wp2_with fail
 refine(HC.o _ (Z' _ _)).mono ?_;rintro e w2 ⟨rfl,Y7⟩;clear HC;have y2:=Y7.block w Ah;rw[Z9]at y2;have TF:w.heap.size+1≤w2.heap.size:=by have h:=Y7.size;have h:(w.heap.push _).size≤w2.heap.size:=h;rw[N9]at h;exact h
 have Y2H:=Zh y2;clear y2;go_wp2_with fail
 have WM:Below w w w2:=(Z' w _).trans (Y7.mono jm);have HEYE:Hid (Tq (w2.alloc (.cells (Ja (some ⟨g,off,none⟩) b.length c 4) 264)).drew w2 (.slice (some ⟨g,off,none⟩) b.length c) 4):=Z9 _ _
 have HRB3:Hid (RB w (w2.alloc (.cells (Ja (some ⟨g,off,none⟩) b.length c 4) 264)).drew w2 (.slice (some ⟨g,off,none⟩) b.length c) 4 Yz1):=
  ⟨(WM.trans ((Z' w2 _).mono WM.size)).drew,by show(w2.alloc _).heap[w.heap.size]?=_;rw[(Z' w2 _).block w Zo];exact Y2H.o,HEYE.o,Zo⟩
 have Zv:Hid (∀w',Below w w w'→w'.cell? ⟨g,off+1,none⟩=some (.int .u8 (at8 b 1:Int))∧Below w w w'):=fun w' h=>by
  obtain⟨_,_,_,e,_,_,hc⟩:=Rk (HV.o w' h) Zo;cases e;exact⟨hc 1 Zo,h⟩
 have hbI:(1:Int)<(b.length:Int):=by omega
 have hbN:1<b.length:=by omega
 have Sg:=Xd b 1;have hg4:get b 4 4<4294967296:=U7 b 4 4 4 Zd;have HW:=Zh (II w2 _ b 4 _ HEYE.o (HV.o _ (WM.trans ((Z' w2 _).mono WM.size)).drew) Zo);have hzz:w.heap.size<w2.heap.size:=by omega
 clear Y7;have HK:=Zh hk;have GZ:=Zh hlen;have H15:=Zh h15;have nY:Hid (report b=⟨(at8 b 1:Int),get b 4 4,if at8 b 1=200 then(get b 8 8:Int)else 0,if at8 b 1=200 then(get b 16 4:Int)else 0,if at8 b 1=200 then(get b 20 4:Int)else 0,if at8 b 1=200 then(get b 24 4:Int)else 0,(List.range (at8 b 0%32)).map fun(i:Nat)=>Ns b ((if at8 b 1=200 then 28 else 8)+24*i),[],0,[]⟩):=rfl;clear hk hlen hb4' h15 Rt x8;generalize at8 b 1=kd at *;have hkw:IntKind.i64.wrap (kd:Int)=(kd:Int):=SZ _ Zo;refine RX ?_;refine wp_region_held_drew (S:=(fun w'=>w'.cell? ⟨g,off+1,none⟩=some (.int .u8 (kd:Int))∧Below w w w')) X6 ?_ (fun XC=>?_)
 ·exact Zv.o _ (WM.trans ((Z' w2 _).mono WM.size)).drew
 refine YA 0 (h:=YA 1 (h:=YA 2 (h:=YA 3 (h:=YA 4 (h:=?_)))));refine wpAnyH_ready (rs:=[5]) X6 Zi ?_;refine AllReadyH.cons (i:=5) rfl (fun K hK=>?_) ?_
 ·go_simp
  (refine HW.o.mono ?_;rintro e w4 ⟨rfl,he4,b9⟩;have dC:=Zh (HRB3.o.move he4 b9);have S0:Below w w w4:=dC.o.Za)
  go_wp2_with fail
  refine hK.out _ _ ?_ (fun Vq=>?_)
  ·exact Zv.o _ S0
  clear hK K;try simp only[pt]
  refine YA 6 (h:=?_);refine Rv 7 (h:=fun K hK=>?_);refine RU Zr 173 (.tmp 2) (.tmp 25) Zr Zr w (Qe (kd:Int) (get b 4 4:Nat) 0 0 0 0 none 0 0 none 0 0 0 none 0 0) Zr Zr 173 _ dC.o.Y8 X6 X6 X6 ?_;have z_:=Zh (dC.o.row (Qe (kd:Int) (get b 4 4:Nat) 0 0 0 0 none 0 0 none 0 0 0 none 0 0));refine hK.out _ _ (Zv.o _ z_.o.Za) (fun _=>?_);clear hK K;try simp only[pt]
  refine wpAnyH_done X6 ?_ _;refine QP ?_;have hbe:=z_.o.Za;have z0:(w4.setRow w (Qe (kd:Int) (get b 4 4:Nat) 0 0 0 0 none 0 0 none 0 0 0 none 0 0)).cell? ⟨w,0,none⟩=some (.int .i64 (kd:Int)):=z_.o.cell 0;have HRB:Hid (RB w (w4.setRow w (Qe (kd:Int) (get b 4 4:Nat) 0 0 0 0 none 0 0 none 0 0 0 none 0 0)) w2 (.slice (some ⟨g,off,none⟩) b.length c) 8 (Qe (kd:Int) (get b 4 4:Nat) 0 0 0 0 none 0 0 none 0 0 0 none 0 0)):=z_.o;clear HRB3 dC z_ HW HEYE S0 he4 b9 XC Vq Zv hbI hbN Y2H WM hkw;generalize w4.setRow w (Qe (kd:Int) (get b 4 4:Nat) 0 0 0 0 none 0 0 none 0 0 0 none 0 0)=w5 at *;clear TF;clear w4;generalize w2.heap.size=k at *;clear w2;obtain⟨P0,zY⟩:∃P0:Nat,Hid (P0=if kd=200 then 28 else 8):=⟨_,rfl⟩;obtain⟨N2,mY⟩:∃x:Int,Hid (x=if kd=200 then(get b 8 8:Int)else 0):=⟨_,rfl⟩;obtain⟨N3,vN⟩:∃x:Int,Hid (x=if kd=200 then(get b 16 4:Int)else 0):=⟨_,rfl⟩;obtain⟨N4,K_⟩:∃x:Int,Hid (x=if kd=200 then(get b 20 4:Int)else 0):=⟨_,rfl⟩;obtain⟨N5,La⟩:∃x:Int,Hid (x=if kd=200 then(get b 24 4:Int)else 0):=⟨_,rfl⟩;go_upto_if 28 with fail
  go_cut [] (fun wx=>RB w wx k (.slice (some ⟨g,off,none⟩) b.length c) P0 (Qe (kd:Int) (get b 4 4:Nat) N2 N3 N4 N5 none 0 0 none 0 0 0 none 0 0))
  case first=>
   by_cases G8:kd=200
   ·have bk:((kd:Int)==200)=true:=by rw[beq_iff_eq];omega
    have CG:Hid (Calls prog 181 (Qk (some ⟨k,0,none⟩) 8) w5 fun e w'=>e = .returned (.int .u64 (get b 8 8:Nat))∧RB w w' k (.slice (some ⟨g,off,none⟩) b.length c) 16 (Qe (kd:Int) (get b 4 4:Nat) 0 0 0 0 none 0 0 none 0 0 0 none 0 0)∧Fr w5 (· = k) w5 w'):=HRB.o.get HV.o Zo 8 Zo;have hP:P0=28:=by rw[zY.o,ZU G8]
    have h2:N2=(get b 8 8:Int):=by rw[mY.o,ZU G8]
    have h3:N3=(get b 16 4:Int):=by rw[vN.o,ZU G8]
    have h4:N4=(get b 20 4:Int):=by rw[K_.o,ZU G8]
    have h5:N5=(get b 24 4:Int):=by rw[La.o,ZU G8]
    subst hP h2 h3 h4 h5;clear zY mY vN K_ La G8;go_wp2_with fail
    refine CG.o.mono ?_;rintro e w6 ⟨rfl,hrb6,-⟩;have CW6:Hid (Calls prog 180 #[.pointer (some ⟨k,0,none⟩)] w6 fun e w'=>e = .returned (.int .u32 (get b 16 4:Nat))∧RB w w' k (.slice (some ⟨g,off,none⟩) b.length c) 20 (Qe (kd:Int) (get b 4 4:Nat) 0 0 0 0 none 0 0 none 0 0 0 none 0 0)∧Fr w6 (· = k) w6 w'):=hrb6.word HV.o Zo;clear hrb6;go_wp2_with fail
    refine CW6.o.mono ?_;rintro e w7 ⟨rfl,hrb7,-⟩;have CW7:Hid (Calls prog 180 #[.pointer (some ⟨k,0,none⟩)] w7 fun e w'=>e = .returned (.int .u32 (get b 20 4:Nat))∧RB w w' k (.slice (some ⟨g,off,none⟩) b.length c) 24 (Qe (kd:Int) (get b 4 4:Nat) 0 0 0 0 none 0 0 none 0 0 0 none 0 0)∧Fr w7 (· = k) w7 w'):=hrb7.word HV.o Zo;clear hrb7;go_wp2_with fail
    refine CW7.o.mono ?_;rintro e w8 ⟨rfl,hrb8,-⟩;have CW8:Hid (Calls prog 180 #[.pointer (some ⟨k,0,none⟩)] w8 fun e w'=>e = .returned (.int .u32 (get b 24 4:Nat))∧RB w w' k (.slice (some ⟨g,off,none⟩) b.length c) 28 (Qe (kd:Int) (get b 4 4:Nat) 0 0 0 0 none 0 0 none 0 0 0 none 0 0)∧Fr w8 (· = k) w8 w'):=hrb8.word HV.o Zo;clear hrb8;go_wp2_with fail
    refine CW8.o.mono ?_;rintro e w9 ⟨rfl,D8,-⟩;have z2:w9.cell? ⟨w,2,none⟩=some (.int .u64 0):=D8.cell 2;have z3:w9.cell? ⟨w,3,none⟩=some (.int .u32 0):=D8.cell 3;have z4:w9.cell? ⟨w,4,none⟩=some (.int .u32 0):=D8.cell 4;have z5:w9.cell? ⟨w,5,none⟩=some (.int .u32 0):=D8.cell 5;have f2:=D8.frozen 2;have f3:=D8.frozen 3;have f4:=D8.frozen 4;have f5:=D8.frozen 5;have HF:=Zh ((((D8.set 2 (.int .u64 (get b 8 8:Nat))).set 3 (.int .u32 (get b 16 4:Nat))).set 4 (.int .u32 (get b 20 4:Nat))).set 5 (.int .u32 (get b 24 4:Nat)));clear D8;go_wp2_with fail
    go_meet;exact HF.o
   ·have bk:((kd:Int)==200)=false:=by rw[Wz];omega
    have hP:P0=8:=by rw[zY.o,Z3 G8]
    have h2:N2=0:=by rw[mY.o,Z3 G8]
    have h3:N3=0:=by rw[vN.o,Z3 G8]
    have h4:N4=0:=by rw[K_.o,Z3 G8]
    have h5:N5=0:=by rw[La.o,Z3 G8]
    subst hP h2 h3 h4 h5;clear zY mY vN K_ La G8;go_wp2_with fail
    go_meet;exact HRB.o
  case rest=>
   obtain⟨W5,rfl⟩:∃W:World,W=wc:=⟨_,rfl⟩;obtain⟨_,_,_,e1,_,_,fA⟩:=Rk (HV.o _ hcut.Za) Zo;cases e1;have d0:W5.cell? ⟨g,off,none⟩=some (.int .u8 (at8 b 0:Int)):=fA 0 Zo;have ha:=Ak (at8 b 0) (Xd b 0);have hm15:=H15.o;have hP28:P0≤28:=by rw[zY.o];split <;> omega
   have hRP:report b=⟨(kd:Int),get b 4 4,N2,N3,N4,N5,(List.range (at8 b 0%32)).map fun(i:Nat)=>Ns b (P0+24*i),[],0,[]⟩:=by rw[nY.o,zY.o,mY.o,vN.o,K_.o,La.o]
   have HRP2:=Zh hRP;have HCUT:=Zh hcut;clear fA hcut nY zY mY vN K_ La HRB z0 hbe hRP HK H15 GZ WO;generalize at8 b 0%32=m at *;obtain⟨BL,hBL⟩:∃BL:List nJ,BL=(List.range m).map fun(i:Nat)=>Ns b (P0+24*i):=⟨_,rfl⟩
   have HBLn:Hid (BL.length=m):=by show _=_;rw[hBL];simp
   have HBLs:Hid (∀j,j<m→BL.take (j+1)=BL.take j++[Ns b (P0+24*j)]):=fun j hj=>by
    rw[List.take_succ_eq_append_getElem (by rw[HBLn.o];exact hj)];simp[hBL]
   rw[←hBL]at HRP2;clear hBL;have HR0:Hid (RL w W5 k (.slice (some ⟨g,off,none⟩) b.length c) P0 (Qe (kd:Int) (get b 4 4:Nat) N2 N3 N4 N5 none 0 0 none 0 0 0 none 0 0) (.slice none 0 0) 0 []):=⟨HCUT.o,TH _ _ _ _⟩;clear HCUT;go_upto_region 9 with fail
   go_loopw [45] (fun i w'=>∃(j:Nat) (bv:Value),j≤m∧i = .int .u8 (j:Int)∧RL w w' k (.slice (some ⟨g,off,none⟩) b.length c) (P0+24*j) (Jf (kd:Int) (get b 4 4:Nat) N2 N3 N4 N5 bv none 0 0 0 none 0 0) bv j ((BL.take j).flatMap WW)) (fun i _=>m-(intOf i).toNat)
   case atStart=>exact⟨0,_,Tv _,rfl,HR0.o⟩
   case round=>
    clear HR0;obtain⟨j,bv0,hj,rfl,hrl⟩:=hrel;obtain⟨tH,tI,hbv0,-,-⟩:=Row.Z4 hrl.own;subst hbv0;have ng:=Zh hrl;clear hrl;by_cases xY:j<m
    ·have VA:=Zh (HBLs.o j xY);obtain⟨p,hp⟩:∃p,p=P0+24*j:=⟨_,rfl⟩;have Cq:p≤1000:=by omega
     rw[←hp]at VA ng;obtain⟨cs,Tx⟩:∃cs:List Value,cs=(Jf (kd:Int) (get b 4 4:Nat) N2 N3 N4 N5 (.slice tH j tI) none 0 0 0 none 0 0):=⟨_,rfl⟩;obtain⟨xs,GJ⟩:∃xs:List Value,xs=(BL.take j).flatMap WW:=⟨_,rfl⟩;rw[←Tx,←GJ]at ng;have HCSE:=Zh Tx;have HXSE:=Zh GJ;clear Tx GJ;have HPN:Hid (P0+24*(j+1)=p+24):=by show _=_;rw[hp];omega
     clear hp;have HBC:Hid (WW (Ns b p)=(Qt (get b (p:Nat) 4:Nat) (get b (p+4:Nat) 1:Nat) (get b (p+5:Nat) 3:Nat) (get b (p+8:Nat) 4:Nat) (get b (p+12:Nat) 4:Nat) (get b (p+16:Nat) 4:Nat) (get b (p+20:Nat) 4:Nat))):=rfl;have CS:=fun q (hq:q≤2000) w1 bv xs j cs (h:RL w w1 k (.slice (some ⟨g,off,none⟩) b.length c) q cs bv j xs)=>h.word (b:=b) HV.o Zo
     have CG:=fun q (hq:q≤2000) w1 bv xs j cs (h:RL w w1 k (.slice (some ⟨g,off,none⟩) b.length c) q cs bv j xs) r hr=>h.get (b:=b) HV.o Zo r hr
     have gD:=Zh CS;have mV:=Zh CG;clear CS CG;have x0b:get b (p:Nat) 4<4294967296:=U7 b _ 4 4 Zd;have x1b:get b (p+4:Nat) 1<256:=U7 b _ 1 1 Zd;have x2b:get b (p+5:Nat) 3<4294967296:=Od (U7 b _ 3 3 Zd) Zd;generalize h0:get b (p:Nat) 4=x0 at *;generalize h1:get b (p+4:Nat) 1=x1 at *;generalize h2:get b (p+5:Nat) 3=x2 at *;generalize h3:get b (p+8:Nat) 4=x3 at *;generalize h4:get b (p+12:Nat) 4=x4 at *;generalize h5:get b (p+16:Nat) 4=x5 at *;generalize h6:get b (p+20:Nat) 4=x6 at *;have HG0:=Zh h0;have N7:=Zh h1;have JL:=Zh h2;have HG3:=Zh h3;have HG4:=Zh h4;have cY:=Zh h5;have wG:=Zh h6;clear h0 h1 h2 h3 h4 h5 h6;have C1:Hid (Calls prog 180 #[.pointer (some ⟨k,0,none⟩)] wr fun e w'=>e = .returned (.int .u32 (x0:Nat))∧RL w w' k (.slice (some ⟨g,off,none⟩) b.length c) (p+4) cs (.slice tH j tI) j xs∧Fr wr (· = k) wr w'):=by have:=gD.o p Zo _ _ _ _ _ ng.o;rw[HG0.o]at this;exact this
     go_wp2_with fail
     refine C1.o.mono ?_;rintro e v1 ⟨rfl,hr1,-⟩;have JM:=Zh hr1;clear hr1 C1;have C2:Hid (Calls prog 181 (Qk (some ⟨k,0,none⟩) 1) v1 fun e w'=>e = .returned (.int .u64 (x1:Nat))∧RL w w' k (.slice (some ⟨g,off,none⟩) b.length c) (p+5) cs (.slice tH j tI) j xs∧Fr v1 (· = k) v1 w'):=by have:=mV.o (p+4) Zo _ _ _ _ _ JM.o 1 Zo;rw[←N7.o];exact this
     go_wp2_with fail
     refine C2.o.mono ?_;rintro e v2 ⟨rfl,OA,-⟩;have rh:=Zh OA;clear OA C2;have C3:Hid (Calls prog 181 (Qk (some ⟨k,0,none⟩) 3) v2 fun e w'=>e = .returned (.int .u64 (x2:Nat))∧RL w w' k (.slice (some ⟨g,off,none⟩) b.length c) (p+8) cs (.slice tH j tI) j xs∧Fr v2 (· = k) v2 w'):=by have:=mV.o (p+5) Zo _ _ _ _ _ rh.o 3 Zo;rw[←JL.o];exact this
     go_wp2_with fail
     refine C3.o.mono ?_;rintro e v3 ⟨rfl,D7,-⟩;have wM:=Zh D7;clear D7 C3;have aF:=Zh (wM.o.below (Z' v3 (.cells (Qt (x0:Nat) (x1:Nat) (x2:Nat) 0 0 0 0) 228)));have wm:Hid ((v3.alloc (.cells (Qt (x0:Nat) (x1:Nat) (x2:Nat) 0 0 0 0) 228)).heap[v3.heap.size]?=some (.cells (Qt (x0:Nat) (x1:Nat) (x2:Nat) 0 0 0 0) 228)):=Z9 _ _;have b_:k<v3.heap.size:=wM.o.rb.pW;have hwk:w.heap.size<k:=wM.o.rb.lt
     have HOB:Hid (∀i,(Value.slice tH j tI).ownBlock=some i→i≠v3.heap.size):=fun i hi e=>by
      have:=gi wM.o.own i hi;omega
     have C4:Hid (Calls prog 180 #[.pointer (some ⟨k,0,none⟩)] (v3.alloc (.cells (Qt (x0:Nat) (x1:Nat) (x2:Nat) 0 0 0 0) 228)) fun e w'=>e = .returned (.int .u32 (x3:Nat))∧RL w w' k (.slice (some ⟨g,off,none⟩) b.length c) (p+12) cs (.slice tH j tI) j xs∧Fr (v3.alloc (.cells (Qt (x0:Nat) (x1:Nat) (x2:Nat) 0 0 0 0) 228)).heap.size (· = k) (v3.alloc (.cells (Qt (x0:Nat) (x1:Nat) (x2:Nat) 0 0 0 0) 228)) w'):=by have:=gD.o (p+8) Zo _ _ _ _ _ aF.o;rw[←HG3.o];exact this
     go_wp2_with fail
     refine C4.o.mono ?_;rintro e v4 ⟨rfl,x9,b9⟩;have HK4:=Zh (AB b9 wm.o b_);have HR4:=Zh x9;clear x9 b9 C4 wm aF wM rh JM;generalize v3.heap.size=q at *;clear v3;have C5:Hid (Calls prog 180 #[.pointer (some ⟨k,0,none⟩)] v4 fun e w'=>e = .returned (.int .u32 (x4:Nat))∧RL w w' k (.slice (some ⟨g,off,none⟩) b.length c) (p+16) cs (.slice tH j tI) j xs∧Fr v4 (· = k) v4 w'):=by have:=gD.o (p+12) Zo _ _ _ _ _ HR4.o;rw[←HG4.o];exact this
     go_wp2_with fail
     refine C5.o.mono ?_;rintro e v5 ⟨rfl,hr5,pD⟩;have HK5:=Zh (AB pD HK4.o b_);have HR5:=Zh hr5;clear hr5 pD C5 HR4 HK4;have C6:Hid (Calls prog 180 #[.pointer (some ⟨k,0,none⟩)] v5 fun e w'=>e = .returned (.int .u32 (x5:Nat))∧RL w w' k (.slice (some ⟨g,off,none⟩) b.length c) (p+20) cs (.slice tH j tI) j xs∧Fr v5 (· = k) v5 w'):=by have:=gD.o (p+16) Zo _ _ _ _ _ HR5.o;rw[←cY.o];exact this
     go_wp2_with fail
     refine C6.o.mono ?_;rintro e v6 ⟨rfl,hr6,hf6⟩;have HK6:=Zh (AB hf6 HK5.o b_);have wN:=Zh hr6;clear hr6 hf6 C6 HR5 HK5;have C7:Hid (Calls prog 180 #[.pointer (some ⟨k,0,none⟩)] v6 fun e w'=>e = .returned (.int .u32 (x6:Nat))∧RL w w' k (.slice (some ⟨g,off,none⟩) b.length c) (p+24) cs (.slice tH j tI) j xs∧Fr v6 (· = k) v6 w'):=by have:=gD.o (p+20) Zo _ _ _ _ _ wN.o;rw[←wG.o];exact this
     go_wp2_with fail
     refine C7.o.mono ?_;rintro e v7 ⟨rfl,fO,fE⟩;have Ck:=AB fE HK6.o b_;have u3:v7.cell? ⟨q,3,none⟩=some (.int .u32 0):=cell_of Ck 3;have u4:v7.cell? ⟨q,4,none⟩=some (.int .u32 0):=cell_of Ck 4;have u5:v7.cell? ⟨q,5,none⟩=some (.int .u32 0):=cell_of Ck 5;have u6:v7.cell? ⟨q,6,none⟩=some (.int .u32 0):=cell_of Ck 6;have f3:=ZP Ck 3;have f4:=ZP Ck 4;have f5:=ZP Ck 5;have f6:=ZP Ck 6;have fL:=Gz Ck 3 (.int .u32 (x3:Nat));have Uu:=Gz fL 4 (.int .u32 (x4:Nat));have kD:=Gz Uu 5 (.int .u32 (x5:Nat));have hk11:=Gz kD 6 (.int .u32 (x6:Nat));have dB:=Zh ((((fO.other Ck (o:=3) b_ HOB.o (.int .u32 (x3:Nat))).other fL (o:=4) b_ HOB.o (.int .u32 (x4:Nat))).other Uu (o:=5) b_ HOB.o (.int .u32 (x5:Nat))).other kD (o:=6) b_ HOB.o (.int .u32 (x6:Nat)));have sM:=Zh hk11;clear Ck fL Uu kD hk11 fO fE C7 wN HK6;go_upto_region 12 with fail
     clear u3 u4 u5 u6 f3 f4 f5 f6;generalize(((v7.setCell ⟨q,3,none⟩ (.int .u32 (x3:Nat))).setCell ⟨q,4,none⟩ (.int .u32 (x4:Nat))).setCell ⟨q,5,none⟩ (.int .u32 (x5:Nat))).setCell ⟨q,6,none⟩ (.int .u32 (x6:Nat))=v8 at *;clear v7;have c0:v8.cell? ⟨q,0,none⟩=some (.int .u32 (x0:Nat)):=cell_of sM.o 0;have c1:v8.cell? ⟨q,1,none⟩=some (.int .u8 (x1:Nat)):=cell_of sM.o 1;have c2:v8.cell? ⟨q,2,none⟩=some (.int .u32 (x2:Nat)):=cell_of sM.o 2;have c3:v8.cell? ⟨q,3,none⟩=some (.int .u32 (x3:Nat)):=cell_of sM.o 3;have c4:v8.cell? ⟨q,4,none⟩=some (.int .u32 (x4:Nat)):=cell_of sM.o 4;have c5:v8.cell? ⟨q,5,none⟩=some (.int .u32 (x5:Nat)):=cell_of sM.o 5;have c6:v8.cell? ⟨q,6,none⟩=some (.int .u32 (x6:Nat)):=cell_of sM.o 6;have cb:v8.cell? ⟨w,6,none⟩=some (.slice tH j tI):=by rw[dB.o.rb.cell 6,HCSE.o];rfl
     have fL:k<v8.heap.size:=dB.o.rb.pW;go_wp2_with (at_builtin;refine YN rfl (.tmp 69) (.tmp 71) 170 rfl (k+1) Mf (.slice tH j tI) j _ rfl (dB.o.own.alloc _) _ 1 (Qt (x0:Nat) (x1:Nat) (x2:Nat) (x3:Nat) (x4:Nat) (x5:Nat) (x6:Nat)) rfl (Vw v8 228 1 (Qt (x0:Nat) (x1:Nat) (x2:Nat) (x3:Nat) (x4:Nat) (x5:Nat) (x6:Nat)) Zd) rfl (by intro u hu;simp at hu;rcases hu with rfl|rfl|rfl|rfl|rfl|rfl|rfl <;> rfl) Zo Zo TY (fun v' w5 HO HG=>?_);have z_:=Zh ((dB.o.below (Z' v8 _)).grown HG.o);have f6:=z_.o.frozen 6;have c65:w5.cell? ⟨w,6,none⟩=some (.slice tH j tI):=(by rw[z_.o.cell 6,HCSE.o];rfl);obtain⟨va,vc,ll,-,-⟩:=Row.Z4 HO.o;subst ll)
     go_roundw
     case rel=>exact⟨j+1,_,Zo,Zn,by rw[VA.o,HPN.o,O7,←HXSE.o];refine⟨by have h:=z_.o.set 6 (.slice va (j+1) vc);rw[HCSE.o]at h;exact h,UX (by have h:=HO.o;rw[←HBC.o]at h;rw[show[Ns b p].flatMap WW=WW (Ns b p) by simp];exact h) Zo _⟩⟩
     case measure=>simp[intOf];omega
    ·obtain rfl:j=m:=by omega
     have ZW:=Row.Z4 ng.o.own;have y0:=ng.o.rb.Y8;have z0:=cell_of y0 0;have z1:=cell_of y0 1;have z2:=cell_of y0 2;have z3:=cell_of y0 3;have z4:=cell_of y0 4;have z5:=cell_of y0 5;have z6:=cell_of y0 6;have z7:=cell_of y0 7;have z8:=cell_of y0 8;have z9:=cell_of y0 9;simp only[Ss,R_,Rw]at z0 z1 z2 z3 z4 z5 z6 z7 z8 z9;have H9:=fun(R:World→Prop) (h:R wr)=>(by rw[setRow_self _ _ _ _ _ y0];exact h:R (wr.setRow w (Jf (kd:Int) (get b 4 4:Nat) N2 N3 N4 N5 (.slice tH j tI) none 0 0 0 none 0 0)))
     have HS:=Zh H9;have U0:=Zh ZW;have R7:=Zh ng.o.rb.Za;have HT:Hid (BL.take j=BL):=Ex (by rw[HBLn.o];exact Zq _);clear H9 ZW ng;go_wp2_with (with_reducible refine ZT 173 (.tmp 2) (.tmp 75) rfl ?_;go_loud (refine Zs y0 ?_;refine HS.o _ ?_))
     refine Vr (v:= .tuple (Qs (Jf (kd:Int) (get b 4 4:Nat) N2 N3 N4 N5 (.slice tH j tI) none 0 0 0 none 0 0) Y1 0)) (by simp[results,results170,go_sem,z0,z1,z2,z3,z4,z5,z6,z7,z8,z9]) rfl ⟨⟨_,by rw[HX.o],?_⟩,R7.o⟩;rw[HX.o];dsimp only;rw[HRP2.o];refine⟨.slice tH j tI,.slice none 0 0,.slice none 0 0,rfl,?_,Row.nil _ _,Row.nil _ _⟩;have h:=U0.o;rw[HT.o]at h;show Row _ _ _ BL.length _;rw[HBLn.o];exact h
 exact AllReadyH.nil
def Wa{P:Program}{fn:Func}{p u v:Tmp}{ty:TypeId}(h:fn.results=#[.cell p ty,.tmp u,.tmp v])(tmps:Array Value)(w:World)(g:Nat)(t:TypeId)(cs:Array Value)(fr:Nat×Nat)(d:TypeDesc)
  (hp:tmps.getD p undef = .pointer (some ⟨g,0,none⟩)) (hg:w.heap[g]?=some (.cells cs t fr))
  (hu:P.underlying ty=some d) (hd:(match d with | .struct _ | .array _ _=>true|_=>false)=true) (hi:(P.info? ty).map (·.size)=some cs.size) :
  (results fn tmps).run P w = .ok (.tuple #[.agg cs,tmps.getD u undef,tmps.getD v undef]) w:=by
 exact Yt4
def Ek(v:Value)(b:List UInt8)(w:World)(hv:XU w v b) :
  Calls prog 170 #[v] w fun e w'=>(∃a,e = .returned (.tuple #[a,.int .i64 (XP b).1.2,.int .i64 (XP b).2])∧SH w' a (XP b).1.1)∧Below w w w':=by
 by_cases h:(right b).2=0
 ·exact Bf v b w hv h
 ·exact El v b w hv h
def Kl{w:World}{v:Value}{i:Rc}(h:SH w v i):∃xa xc ya yc za zc,v = .agg (Jt i xa xc ya yc za zc)∧TW w ⟨i,.slice xa i.blocks.length xc,.slice ya i.gone.length yc,.slice za i.Xm.length zc⟩:=by
 obtain⟨bv,gv,pv,h1,h2,h3,h4⟩:=h.ex;obtain⟨xa,xc,rfl⟩:=Row.form h2;obtain⟨ya,yc,rfl⟩:=Row.form h3;obtain⟨za,zc,rfl⟩:=Row.form h4;exact⟨xa,xc,ya,yc,za,zc,h1,⟨h2,h3,h4⟩⟩
def MM{w:World}{i:Rc}{xa ya za:Option Addr}{xc yc zc:Nat}(h:TW w ⟨i,.slice xa i.blocks.length xc,.slice ya i.gone.length yc,.slice za i.Xm.length zc⟩):SH w (.agg (Jt i xa xc ya yc za zc)) i:=⟨_,_,_,rfl,h.b,h.g,h.p⟩
def TW.setRow{w:World}{x:Rj}(h:TW w x){g:Nat}{c:Array Value}{f:Nat×Nat}(hg:w.heap[g]?=some (.cells c 173 f))(c':Array Value):TW (w.setRow g c') x:=
 ⟨Row.setRow h.b hg Zd c',Row.setRow h.g hg Zd c',Row.setRow h.p hg Zd c'⟩
def Ct(w:World):TW w ⟨XJ,.slice none 0 0,.slice none 0 0,.slice none 0 0⟩:=⟨Row.nil _ _,Row.nil _ _,Row.nil _ _⟩
def lG{b:List UInt8}(h:(Xk b).2=true)(h2:¬((Xk b).1=200∨(Xk b).1=201)):(Xk b).1=203∨(Xk b).1=205∨(Xk b).1=206:=by
 unfold Xk at h h2 ⊢;split at h
 ·rename_i h1;rw[ZU h1]at h2 ⊢;omega
 ·rename_i h1
  rw[Z3 h1]at h2 ⊢;split at h
  ·rename_i h3;rw[ZU h3]at h2 ⊢;omega
  ·cases h
def uf{b:List UInt8}{k:Nat}(hk:k=203∨k=205∨k=206)(h:(Xz b k).2=true):(Xz b k).1%4=0∧4≤(Xz b k).1∧(k≠203→12≤(Xz b k).1):=by
 unfold Xz at h ⊢;by_cases h1:k=203
 ·dsimp only at h ⊢;rw[ZU h1]at h ⊢;exact⟨by show(get b 2 2+1)*4%4=0;omega,by show 4≤(get b 2 2+1)*4;omega,fun h=>absurd h1 h⟩
 ·dsimp only at h ⊢;rw[Z3 h1]at h ⊢;by_cases h2:k=205
  ·rw[ZU h2]at h ⊢;have h:=(UN _ _).mp h;have h3:=of_decide_eq_true h.1;exact⟨by show(get b 2 2+1)*4%4=0;omega,by show 4≤(get b 2 2+1)*4;omega,fun _=>by show 12≤(get b 2 2+1)*4;omega⟩
  ·rw[Z3 h2]at h ⊢;have h3:=of_decide_eq_true h;exact⟨by show(get b 2 2+1)*4%4=0;omega,by show 4≤(get b 2 2+1)*4;omega,fun _=>by show 12≤(get b 2 2+1)*4;omega⟩
def qj(v:Value)(b:List UInt8)(k:Nat)(w:World)(hv:XU w v b)(hk:k=203∨k=205∨k=206)(h4:b.length%4=0)(hb:b.length≤1000)(S0:4≤b.length)(D3:k≠203→12≤b.length) :
  Calls prog 172 #[v,.int .i64 (k:Int)] w fun e w'=>(∃a,e = .returned a∧SH w' a (parts b k))∧Below w w w':=by
 by_cases h:k=203
 ·subst h;exact ql v b w hv h4 hb S0
 ·exact yK v b k w hv h4 hb (D3 h) h Zo
def lJ(v:Value)(b:List UInt8)(w:World)(hv:XU w v b)(hb:b.length≤512) :
  Calls prog 151 #[v] w fun e w'=>(∃a,e = .returned (.tuple #[a,.int .i64 ((YX b).1.2:Nat),.int .i64 (YX b).2])∧SH w' a (YX b).1.1)∧Below w w w':=by
 have HX:Hid (YX b=if b.length<4 then((XJ,0),2)else if at8 b 0/32≠4 then((XJ,0),1)else if(Xk b).2=false then((XJ,0),4)else if(Xk b).1=200∨(Xk b).1=201 then XP b else if(Xz b (Xk b).1).2=false then((XJ,0),1)else if b.length<(Xz b (Xk b).1).1 then((XJ,0),2)else((parts (b.take (Xz b (Xk b).1).1) (Xk b).1,(Xz b (Xk b).1).1),0)):=rfl;have HV:Hid (∀w',Below w w w'→XU w' v b):=fun w' h=>hv.below h
 have PF:=Z9 w (.cells X9 173);have VA:=Zh (Z' w (.cells X9 173))
 have Ur:Hid (∀w2 n er,w2.heap[w.heap.size]?=some (.cells X9 173 (0,0))→Below w w w2→YX b=((XJ,n),er)→(∃a,Ending.returned (.tuple (Qs X9 (n:Nat) er)) = .returned (.tuple #[a,.int .i64 ((YX b).1.2:Nat),.int .i64 (YX b).2])∧SH (w2.setRow w X9) a (YX b).1.1)∧Below w w (w2.setRow w X9)):=fun w2 n er h1 h2 h3=>by
  rw[h3];exact⟨⟨_,rfl,MM ((Ct w2).setRow h1 _)⟩,Z0 h2 (Zq _) _⟩
 obtain⟨va,c,rfl,Rt,-⟩:=id hv;have WO:=fun h=>Rk hv h
 clear hv;have mU:=Zh Rt;clear Rt;generalize YX b=X at *;by_cases h1:b.length<4
 ·rw[ZU h1]at HX;clear HV WO;go_enter func151,ntmps151;go_wp2_with (first|with_reducible refine Zs PF ?_)
  refine Vr (v:= .tuple (Qs X9 0 2)) ?_ rfl ?_
  ·exact Yx96
  exact Ur.o _ 0 2 PF VA.o HX.o
 obtain⟨g,off,cap,e1,_,_,hc⟩:=WO Zo;cases e1;have d0:w.cell? ⟨g,off,none⟩=some (.int .u8 (at8 b 0:Int)):=hc 0 Zo;have l1:decide ((b.length:Int)<4)=false:=WH Zo;have zK:g<w.heap.size:=World.block_lt_of_cell? w ⟨g,off,none⟩ d0;rw[Z3 h1]at HX;clear hc WO;by_cases h2:at8 b 0/32≠4
 ·have q:(((at8 b 0:Nat):Int)/32 !=4)=true:=by rw[Rs];omega
  rw[ZU h2]at HX;clear h2;go_enter func151,ntmps151;go_wp2_with (first|with_reducible refine Zs PF ?_)
  refine Vr (v:= .tuple (Qs X9 0 1)) ?_ rfl ?_
  ·exact Yx96
  exact Ur.o _ 0 1 PF VA.o HX.o
 have q2:(((at8 b 0:Nat):Int)/32 !=4)=false:=by rw[bne_eq_false_iff_eq];omega
 rw[Z3 h2]at HX;have CK:=Zh (pQ _ b (w.alloc (.cells X9 173)) (HV.o _ VA.o) Zo);have HKO:=Zh (lG (b:=b));clear h2;generalize Xk b=K at *;obtain⟨k,ok⟩:=K;dsimp only at HX CK HKO;cases ok with
 | false=>
  rw[ZU rfl]at HX;go_enter func151,ntmps151;go_wp2_with (first|(go_at_call 169;refine CK.o.mono ?_;rintro e w2 ⟨rfl,Y7⟩;have TF:=(Y7.block w (ZY PF)).trans PF;have Yc:=Zh (Tr VA Y7);clear Y7)|with_reducible refine Zs TF ?_)
  refine Vr (v:= .tuple (Qs X9 0 4)) ?_ rfl ?_
  ·exact Yx56
  exact Ur.o _ 0 4 TF Yc.o HX.o
 | true=>
  rw[Z3 Zi]at HX;by_cases hk:k=200∨k=201
  ·rw[ZU hk]at HX
   have kb:((k:Int)==200)=true∨(((k:Int)==200)=false∧((k:Int)==201)=true):=by
    rcases hk with h|h
    ·left;rw[beq_iff_eq];omega
    ·right;exact⟨by rw[Wz];omega,by rw[beq_iff_eq];omega⟩
   clear hk HKO;rcases kb with kb|⟨kb,kb2⟩
   ·exact Yx19
   ·exact Yx19
  ·rw[Z3 hk]at HX;have hk3:=HKO.o rfl hk;have kb:((k:Int)==200)=false:=by rw[Wz];omega
   have kb2:((k:Int)==201)=false:=by rw[Wz];omega
   have CL:Hid (∀w',Below w w w'→Calls prog 171 #[(.slice (some ⟨g,off,none⟩) b.length c),.int .i64 (k:Int)] w' fun e w''=>e = .returned (.tuple (Jc ((Xz b k).1:Nat) (Xz b k).2))∧w'=w''):=fun w' h=>yi _ b k w' (HV.o w' h) Zo
   have HLO:=Zh (uf (b:=b) hk3);clear hk HKO;generalize Xz b k=Y at *;obtain⟨n,ok⟩:=Y;dsimp only at HX CL HLO;cases ok with
   | false=>
    rw[ZU rfl]at HX;go_enter func151,ntmps151;go_wp2_with (first|(go_at_call 169;refine CK.o.mono ?_;rintro e w2 ⟨rfl,Y7⟩;have TF:=(Y7.block w (ZY PF)).trans PF;have Yc:=Zh (Tr VA Y7);clear Y7)|(go_at_call 171;refine(CL.o _ Yc.o).mono ?_;rintro e w3 ⟨rfl,rfl⟩)|with_reducible refine Zs TF ?_)
    refine Vr (v:= .tuple (Qs X9 0 1)) ?_ rfl ?_
    ·exact Yx56
    exact Ur.o _ 0 1 TF Yc.o HX.o
   | true=>
    rw[Z3 Zi]at HX;obtain⟨n4,n5,n6⟩:=HLO.o rfl;by_cases nC:b.length<n
    ·rw[ZU nC]at HX;go_enter func151,ntmps151;go_wp2_with (first|(go_at_call 169;refine CK.o.mono ?_;rintro e w2 ⟨rfl,Y7⟩;have TF:=(Y7.block w (ZY PF)).trans PF;have Yc:=Zh (Tr VA Y7);clear Y7)|(go_at_call 171;refine(CL.o _ Yc.o).mono ?_;rintro e w3 ⟨rfl,rfl⟩)|with_reducible refine Zs TF ?_)
     refine Vr (v:= .tuple (Qs X9 0 2)) ?_ rfl ?_
     ·exact Yx56
     exact Ur.o _ 0 2 TF Yc.o HX.o
    ·rw[Z3 nC]at HX;obtain⟨a',Uf,-,ZW⟩:=RT (P:=prog) Vt (some ⟨g,off,none⟩) b.length c n (by have:=mU.o;omega);have htl:(b.take n).length=n:=by rw[SC];omega
     have CPA:Hid (∀w',Below w w w'→Calls prog 172 (Ja a' n c (k:Int)) w' fun e w''=>(∃a,e = .returned a∧SH w'' a (parts (b.take n) k))∧Below w' w' w''):=fun w' h=>by
      refine qj _ (b.take n) k w' ?_ hk3 (by rw[htl];exact n4) (by rw[htl];omega) (by rw[htl];exact n5) (by rw[htl];exact n6);have h5:=ZW w' (Re b) Zo (by rw[Xa,Nat.mul_one]) (HV.o w' h);rw[Nat.mul_one,Oh]at h5;show XG _ _ (b.take n).length _;rw[htl];exact h5
     clear ZW htl;generalize parts (b.take n) k=i at *;go_enter func151,ntmps151;go_wp2_with (first|(go_at_call 169;refine CK.o.mono ?_;rintro e w2 ⟨rfl,Y7⟩;have TF:=(Y7.block w (ZY PF)).trans PF;have Yc:=Zh (Tr VA Y7);clear Y7)|(go_at_call 171;refine(CL.o _ Yc.o).mono ?_;rintro e w3 ⟨rfl,rfl⟩)|(go_at_call 172;refine(CPA.o _ Yc.o).mono ?_;rintro e w4 ⟨⟨a,rfl,hit⟩,S0⟩;obtain⟨xa,xc,ya,yc,za,zc,ha,LR⟩:=Kl hit;subst ha;have vL:=Zh LR;have Ea:=(S0.block w (ZY TF)).trans TF;have U5:=Zh (Tr Yc S0);clear hit LR S0)|with_reducible refine Zs Ea ?_)
     refine Vr (v:= .tuple (Qs (Jt i xa xc ya yc za zc) (n:Nat) 0)) ?_ rfl ?_
     ·exact Wa (p:=2) (u:=3) (v:=4) Zr _ _ w 173 (Jt i xa xc ya yc za zc) (0,0) _ Zr (setRow_heap _ _ _ _ _ _ Ea) underlying173 rfl X6
     exact⟨⟨_,by rw[HX.o],by rw[HX.o];exact MM (vL.o.setRow Ea _)⟩,Z0 U5.o (Zq _) _⟩
def W9{P:Program}{ops:Array Oper}{o:Oper}{a:Act}{w:World}{K:Act→World→Prop}{Q:Exit→Act→World→Prop}{E':Prop}(Lt:o.guard=none){t e:TypeId}{size bytes:Nat}(E:Elem P t e size bytes)(x:Operand)(ho:o.op = .buildSlice t 1 #[(0,x)])
  (cells:Array Value) (hx:a.eval x = .agg cells) (hs:cells.size=size) (Va:size≤1000)
  (h:K (a.put o.dst (.slice (some ⟨w,0,none⟩) 1 1)) (w.alloc (.cells cells e))):if Region.wanted o (yielded ops a.tmps)=true then Oper.wp P o a w K Q else E':=by
 have hw:Region.wanted o (yielded ops a.tmps)=true:=by simp[Region.wanted,Lt]
 rw[ZU hw];obtain⟨z,Um,g_⟩:=E.info;obtain⟨i,hi,hz,RI,kx⟩:=info_parts Um;have PC:=E.pos;refine Go.wp_buildSlice t e 1 #[(0,x)] ho cells i z E.ht hi hz (by rw[RI];omega) (by rw[RI];omega) ?_ h;have hf:=Go.Great.fill_whole (s:=i.size) Zo [.agg cells] ((Array.range (1*i.size)).map (z.cells[· % z.cells.size]!)) (fun v hv=>by rw[K4]at hv;subst hv;show cells.size=_;omega) Zi;have e1:([Value.agg cells].flatMap fun v=>v.cells.toList).toArray=cells:=by simp[Value.cells]
 rw[e1]at hf;simpa[hx]using hf
def GA:Elem prog 82 173 10 120:=⟨underlying82,⟨.agg X9,by kernel_rfl,rfl⟩,by decide⟩
def comb(L:List Rc)(x:List Rc×Int):List Rc×Int:=if x.2≠0 then([],x.2)else(L++x.1,0)
def xB(L:List Rc)(k:Nat){r:List UInt8}(h:(YX r).2≠0):comb L (Yw (k+1) r)=([],(YX r).2):=by
 have e:Yw (k+1) r=([],(YX r).2):=by unfold Yw;rw[ZU h]
 rw[e];unfold comb;rw[ZU h]
def BR(L:List Rc)(k:Nat){r:List UInt8}(h:(YX r).2=0)(hl:r.length-(YX r).1.2=0):comb L (Yw (k+1) r)=(L++[(YX r).1.1],0):=by
 have e:Yw (k+1) r=([(YX r).1.1],0):=by unfold Yw;rw[Z3 (by simp[h]),ZU hl]
 rw[e];rfl
def BS(L:List Rc)(k:Nat){r:List UInt8}(h:(YX r).2=0)(hl:¬r.length-(YX r).1.2=0):comb L (Yw (k+1) r)=comb (L++[(YX r).1.1]) (Yw k (r.drop (YX r).1.2)):=by
 have e:Yw (k+1) r=(if(Yw k (r.drop (YX r).1.2)).2≠0 then([],(Yw k (r.drop (YX r).1.2)).2)else((YX r).1.1 :: (Yw k (r.drop (YX r).1.2)).1,0)):=by
  conv=>lhs;unfold Yw
  rw[Z3 (by simp[h]),Z3 hl]
 rw[e];generalize Yw k (r.drop (YX r).1.2)=y;by_cases h2:y.2≠0
 ·rw[ZU h2];unfold comb;rw[ZU h2,ZU h2]
 ·rw[Z3 h2];unfold comb;rw[Z3 h2,bF];exact Z3 Zi
def Ie{k:Nat}{b:List UInt8}(h:(Yw k b).2≠0):Yw k b=([],(Yw k b).2):=by
 cases k with
 | zero=>rfl
 | succ k=>
  unfold Yw at h ⊢;by_cases h1:(YX b).2≠0
  ·rw[ZU h1]
  rw[Z3 h1]at h ⊢;by_cases h2:b.length-(YX b).1.2=0
  ·rw[ZU h2]at h;exact absurd rfl h
  rw[Z3 h2]at h ⊢;dsimp only at h ⊢;by_cases h3:(Yw k (b.drop (YX b).1.2)).2≠0
  ·rw[ZU h3]
  ·rw[Z3 h3]at h;exact absurd rfl h
def FA{b:List UInt8}(h:(YX b).2=0):(YX b).1.2≤b.length:=by
 unfold YX at h ⊢;by_cases h1:b.length<4
 ·rw[ZU h1]at h;cases h
 rw[Z3 h1]at h ⊢;by_cases h2:at8 b 0/32≠4
 ·rw[ZU h2]at h;cases h
 rw[Z3 h2]at h ⊢;by_cases h3:(Xk b).2=false
 ·rw[ZU h3]at h;cases h
 rw[Z3 h3]at h ⊢;by_cases h4:(Xk b).1=200∨(Xk b).1=201
 ·rw[ZU h4]at h ⊢;unfold XP at h ⊢;by_cases h5:(right b).2≠0
  ·rw[ZU h5]at h;exact absurd h h5
  ·rw[Z3 h5];have:=F6 (b:=b) Zo;show(right b).1≤_;rw[this.2.2.2.1];exact this.2.2.2.2
 rw[Z3 h4]at h ⊢;dsimp only at h ⊢;by_cases h5:(Xz b (Xk b).1).2=false
 ·rw[ZU h5]at h;cases h
 rw[Z3 h5]at h ⊢;by_cases h6:b.length<(Xz b (Xk b).1).1
 ·rw[ZU h6]at h;cases h
 rw[Z3 h6];show(Xz b (Xk b).1).1≤_;omega
def lN:Value→Nat
 | .slice _ n _=>n
 | _=>0
def XN{w w':World}{row:Option Nat}(hg:w.grownBy w' row):Fr w (fun k=>row=some k) w w':=⟨hg.os,hg.tape,hg.output,hg.size,fun k hk hs=>hg.block k hk (fun e=>hs e.symm)⟩
def Y0{base:Nat}{e e2:TypeId}{size:Nat}{v:Value}{n:Nat}{xs:List Value}{w:World}(h:w.ownsRow base e size v n xs)(WA:e2≠e):∀k c fr,v.ownBlock=some k→w.heap[k]?≠some (.cells c e2 fr):=by
 intro k c fr hk hc;obtain⟨_,h⟩:=h;rcases h with⟨rfl,_⟩|⟨g,cap,cur,rfl,hg,hh,_⟩
 ·cases hk
 ·have hk:some g=some k:=hk;cases hk;rw[hh]at hc;injection hc with hc
  injection hc with _ hc
  exact WA hc.symm
def TW.vT{w w':World}{x:Rj}{S:Nat→Prop}(h:TW w x)(hf:Fr w S w w')(h1:∀k c fr,S k→w.heap[k]?≠some (.cells c 228 fr))(h2:∀k c fr,S k→w.heap[k]?≠some (.cells c 66 fr))(h3:∀k c fr,S k→w.heap[k]?≠some (.cells c 226 fr)):TW w' x:=
 ⟨Row.fr h.b hf (Zq _) h1,Row.fr h.g hf (Zq _) h2,Row.fr h.p hf (Zq _) h3⟩
def yY(v:Value)(b:List UInt8)(w:World)(hv:XU w v b) :
  Calls prog 124 #[v] w fun e w'=>(∃a,e = .returned (.tuple #[a,.int .i64 (Yl b).2])∧YB w' a (Yl b).1)∧Below w w w':=by
 have HX:Hid (Yl b=if 512<b.length then([],5)else Yw 8 b):=rfl;have HV:Hid (∀w',Below w w w'→XU w' v b):=fun w' h=>hv.below h
 have hlen:=hv.len;obtain⟨va,c,rfl,Rt,-⟩:=id hv;clear hv Rt;generalize Yl b=X at *;by_cases h1:512<b.length
 ·rw[ZU h1]at HX;clear HV;go_enter func124,ntmps124;go_wp2_with fail
  go_ret2
  exact⟨⟨.slice none 0 0,by rw[HX.o];rfl,by rw[HX.o];exact YB.nil _⟩,YE _ _⟩
 rw[Z3 h1]at HX
 have vJ:Hid (Yw 8 b=comb [] (Yw (8-0) b)):=by
  show _=_;unfold comb;by_cases h:(Yw 8 b).2≠0
  ·rw[ZU h];obtain⟨y,hy⟩:∃y,y=Yw 8 b:=⟨_,rfl⟩;exact Ie h
  ·rw[Z3 h];have h:(Yw 8 b).2=0:=by omega
   show Yw 8 b=([]++(Yw 8 b).1,0);rw[IC,←h]
 go_enter func124,ntmps124;go_upto_region 4 with fail
 go_loopw [0,4] (fun s0 s4 w'=>∃(j:Nat) (r:List UInt8) (ra:Option Addr) (rc:Nat) (L:List Rj),j≤8∧L.length=j∧r.length≤512∧s0 = .slice ra r.length rc∧lN s4=j∧Below w w w'∧w'.ownsRow w 173 10 s4 j (L.flatMap YJ)∧(∀x∈L,TW w' x)∧Hid (∀w'',Below w w w''→XU w'' (.slice ra r.length rc) r)∧Hid (Yw 8 b=comb (L.map (·.i)) (Yw (8-j) r))) (fun _ s4 _=>8-lN s4)
 case atStart=>exact⟨0,b,va,c,[],Tv _,rfl,Zo,rfl,rfl,YE _ _,TH _ _ _ _,fun _ h=>by(exact absurd h Zi),HV.o,vJ.o⟩
 case round=>
  clear vJ HV;obtain⟨j,r,ra,rc,L,hj,hLj,hr,rfl,-,Xp,Yy,Pd,HR,HG⟩:=hrel;obtain⟨oa,oc,rfl,-,-⟩:=Row.Z4 Yy;have R7:=Zh Xp;have Yd:=Zh Yy;have EI:=Zh Pd;have T8:=Xp.size;have HLJ:=Zh hLj;clear Xp Yy Pd hLj;by_cases h8:j=8
  ·subst h8;go_wp2_with fail
   go_ret2
   exact⟨⟨.slice none 0 0,by rw[HX.o,HG.o];rfl,by rw[HX.o,HG.o];exact YB.nil _⟩,R7.o⟩
  have e8:((j:Int)==8)=false:=by rw[Wz];omega
  obtain⟨q,hq⟩:∃q,8-j=q+1:=⟨7-j,Zo⟩;rw[hq]at HG;have CI:=Zh (lJ _ r wr (HR.o _ R7.o) hr)
  have cA:r.length≤rc:=by
   have h:=HR.o _ R7.o;obtain⟨a1,c1,h1,h2,_⟩:=h;injection h1 with _ _ h1
   omega
  have dg:=Zh (FA (b:=r));have HE:=Zh (xB (L.map (·.i)) q (r:=r));have EJ:=Zh (BR (L.map (·.i)) q (r:=r));have HM:=Zh (BS (L.map (·.i)) q (r:=r));generalize YX r=Y at *;obtain⟨⟨i,n⟩,er⟩:=Y;dsimp only at CI dg HE EJ HM;go_upto_region 7 with(go_at_call 151;refine CI.o.mono ?_;rintro e w2 ⟨⟨a,rfl,hit⟩,Y7⟩;obtain⟨xa,xc,ya,yc,za,zc,ha,LR⟩:=Kl hit;subst ha;have vL:=Zh LR;have Yc:=Zh Y7;clear hit LR Y7)
  clear CI;by_cases Rl:er=0
  ·subst Rl;have hnr:n≤r.length:=dg.o Ai;obtain⟨a2,Uf,-,ZW⟩:=Sk (P:=prog) Vt ra r.length rc n hnr cA;have U0:=Zh ZW;have AU:=Z9 w2 (.cells (Jt i xa xc ya yc za zc) 173);have GG:=Yc.o.size;have GW:Hid (Below w w (w2.alloc (.cells (Jt i xa xc ya yc za zc) 173)).drew):=(ZA (R7.o.trans (Yc.o.mono T8)) (Zq _) _).drew;have EG:Hid (Below w w ((w2.alloc (.cells (Jt i xa xc ya yc za zc) 173)).drew.alloc (.cells (Jt i xa xc ya yc za zc) 173))):=ZA (ZA (R7.o.trans (Yc.o.mono T8)) (Zq _) _).drew (Zq _) _;have AP:Below w2 w2 ((w2.alloc (.cells (Jt i xa xc ya yc za zc) 173)).drew.alloc (.cells (Jt i xa xc ya yc za zc) 173)):=ZA (Z' w2 _).drew (Zq _) _;have Nn:=Zh (Yq (Yq Yd.o Yc.o) AP)
   have qZ:Hid (∀x∈L++[⟨i,.slice xa i.blocks.length xc,.slice ya i.gone.length yc,.slice za i.Xm.length zc⟩],TW ((w2.alloc (.cells (Jt i xa xc ya yc za zc) 173)).drew.alloc (.cells (Jt i xa xc ya yc za zc) 173)) x):=fun x hx=>by
    rcases EZ.1 hx with h|h
    ·exact((EI.o x h).below Yc.o).below AP
    ·rw[K4]at h;subst h;exact vL.o.below AP
   clear AP ZW;go_upto_region 9 with fail
   refine RX ?_;refine wp_region_held_drew (S:=(fun w'=>Below w w w')) X6 ?_ (fun XY=>?_)
   ·exact GW.o
   refine YA 0 (h:=YA 4 (h:=YA 5 (h:=YA 6 (h:=?_))));refine Rv 1 (h:=fun K hK=>?_);refine Ra Zr 173 (.tmp 5) Zr w2 Zr 173 (Jt i xa xc ya yc za zc) (0,0) _ AU underlying173 rfl X6 ?_;refine hK.out _ _ ?_ (fun XC=>?_)
   ·first|exact PD.o|exact EG.o|exact GW.o
   clear hK K;try simp only[pt]
   refine Rv 2 (h:=fun K hK=>?_);refine W9 Zr GA (.tmp 24) Zr (Jt i xa xc ya yc za zc) Zr Zr Zd ?_;refine hK.out _ _ ?_ (fun Vq=>?_)
   ·first|exact PD.o|exact EG.o|exact GW.o
   clear hK K;try simp only[pt]
   refine Rv 3 (h:=fun K hK=>?_);refine Y9 Zr (.tmp 23) (.tmp 25) 82 Zr w GA (.slice oa j oc) j (L.flatMap YJ) Zr Nn.o (.slice (some ⟨(w2.alloc (.cells (Jt i xa xc ya yc za zc) 173)).drew.heap.size,0,none⟩) 1 1) 1 (Jt i xa xc ya yc za zc) Zr (Vw (w2.alloc (.cells (Jt i xa xc ya yc za zc) 173)).drew 173 1 (Jt i xa xc ya yc za zc) Zd) rfl (by intro u hu;simp only[K5,List.mem_nil_iff,or_false]at hu;rcases hu with rfl|rfl|rfl|rfl|rfl|rfl|rfl|rfl|rfl|rfl <;> rfl) Zo Zo EG.o.size ?_;intro v' w5 HO cY;have HFG:=Zh (XN cY.o);obtain⟨va',vc',hva',-,-⟩:=Row.Z4 HO.o;subst hva';have PD:Hid (Below w w w5):=EG.o.trans (Fr.below (HFG.o.mono EG.o.size (fun k hk hs=>absurd (Ku Nn.o k hs) Zo)));refine hK.out _ _ ?_ (fun MB=>?_)
   ·first|exact PD.o|exact EG.o|exact GW.o
   clear hK K;try simp only[pt]
   refine YA 7 (h:=YA 8 (h:=?_));refine wpAnyH_done X6 ?_ _;refine QP ?_;have az:Hid (∀x∈L++[⟨i,.slice xa i.blocks.length xc,.slice ya i.gone.length yc,.slice za i.Xm.length zc⟩],TW w5 x):=fun x hx=>(qZ.o x hx).vT HFG.o (Y0 Nn.o Zd) (Y0 Nn.o Zd) (Y0 Nn.o Zd)
   have HFL:Hid ((L++[(⟨i,.slice xa i.blocks.length xc,.slice ya i.gone.length yc,.slice za i.Xm.length zc⟩:Rj)]).flatMap YJ=L.flatMap YJ++[.int .i64 i.kind,.int .u32 i.Yi,.int .u64 i.Ez,.int .u32 i.time,.int .u32 i.Wm,.int .u32 i.octets,.slice xa i.blocks.length xc,.slice ya i.gone.length yc,.int .u32 i.XS,.slice za i.Xm.length zc]):=by
    show _=_;rw[O7];rfl
   clear XY XC Vq MB qZ HFG Nn GW EG Yd EI AU;by_cases hl:r.length-n=0
   ·rw[hl];go_wp2_with fail
    go_ret2
    refine⟨⟨.slice va' (j+1) vc',by rw[HX.o,HG.o,EJ.o Ai hl];rfl,?_⟩,PD.o⟩;rw[HX.o,HG.o,EJ.o Ai hl];refine⟨L++[⟨i,.slice xa i.blocks.length xc,.slice ya i.gone.length yc,.slice za i.Xm.length zc⟩],by rw[Ng];rfl,?_,az.o⟩;rw[HFL.o,UC,HLJ.o];exact Row.Z4 HO.o
   ·have bl:(((r.length-n:Nat):Int)==0)=false:=by rw[Wz];omega
    have rQ:(r.drop n).length=r.length-n:=QG;go_wp2_with fail
    go_roundw
    case rel=>
     refine⟨j+1,r.drop n,a2,rc-n,L++[⟨i,.slice xa i.blocks.length xc,.slice ya i.gone.length yc,.slice za i.Xm.length zc⟩],Zo,by rw[UC,HLJ.o];rfl,Zo,by rw[rQ],rfl,PD.o,by rw[HFL.o];exact HO.o,az.o,?_,?_⟩
     ·intro w'' h;have h5:=U0.o w'' (Re r) (by rw[Xa,Nat.mul_one]) (HR.o w'' h);rw[Nat.mul_one,PN]at h5;show XG _ _ (r.drop n).length _;rw[rQ];exact h5
     ·show _=_;rw[HG.o,HM.o Ai hl,Ng,show 8-(j+1)=q by omega];rfl
    case measure=>show 8-(j+1)<8-j;omega
  ·have bl:(er !=0)=true:=by rw[Rs];exact Rl
   have bl2:(er==0)=false:=by rw[Wz];exact Rl
   go_wp2_with fail
   go_ret2
   exact⟨⟨.slice none 0 0,by rw[HX.o,HG.o,HE.o Rl];rfl,by rw[HX.o,HG.o,HE.o Rl];exact YB.nil _⟩,ZA (R7.o.trans (Yc.o.mono T8)) (Zq _) _⟩
