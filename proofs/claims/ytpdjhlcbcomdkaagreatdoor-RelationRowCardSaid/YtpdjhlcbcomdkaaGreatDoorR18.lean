/- Part of a proof. -/
import Derived.Test.YtpdjhlcbcomdkaaGreatDoorR15
import Derived.Test.YtpdjhlcbcomdkaaGreatDoorR17
set_option linter.unusedVariables false
set_option linter.unusedSimpArgs false
set_option maxRecDepth 100000
set_option maxHeartbeats 16000000
open Go Go.Q Go.Qr
namespace Go.Proofs.Rm
open Go.RowKit Go.Proofs.Heap Go.Proofs.Mem
open Go.Proofs.NM (may key Xz)
structure rB (T:ZN) (o:Op):Prop where
 kind:2≤o.kind∧o.kind≤12
 peer:1≤o.peer
 ssl:o.kind=4→o.ZK.length≤3
 leave:o.kind=3→0≤T.XF o.peer
 src:5≤o.kind→0≤T.YU o.source
 ZH:o.kind=6→0≤o.ZH∧o.ZH<(T.Wb o.source).ss.length
 sub:o.kind=7∨10≤o.kind→0≤T.Y9 o.peer o.source
 eG:o.kind=9→∀ x∈(T.ZJ o.source false).Z0,x.source=o.source→0≤(T.ZJ o.source false).YU o.source∧0≤x.want∧x.want<((T.ZJ o.source false).Wb o.source).ss.length
 change:∀ k,(o.kind=10∧k=4∨o.kind=11∧k=5∨o.kind=12∧k=8)→0≤(T.changed o k).want∧(T.changed o k).want<(T.Wb o.source).ss.length
def UU (b:Nat) (T:ZN) (o:Op) (w:World) (e:Ending) (w':World):Prop:=
 (∃ v,e = .returned (.tuple #[v,.int .i64 (T.Wm o).2])∧YF w' v (T.Wm o).1.1)∧ZL w' b (T.Wm o).1.2∧Fr w (· = b) w w'
theorem Vi {b:Nat} {T T':ZN} {o:Op} {w w':World} {v:Value} {l:List YB} {c:Int} (h:Hid (T.Wm o=((l,T'),c))) (h1:YF w' v l) (h2:ZL w' b T') (h3:Fr w (· = b) w w'):UU b T o w (.returned (.tuple #[v,.int .i64 c])) w':=by
 unfold UU;rw [h.o];exact ⟨⟨v,rfl,h1⟩,h2,h3⟩
theorem kO (b:Nat) (T:ZN) (o:Op) (sa ba:Option Addr) (sc bl bc:Nat) (w:World) (hR:ZL w b T) (Vl:T.Small) (hT:Xz w) (UT:o.name.length<9223372036854775807) (S0:∀ x∈T.ZA,x.name.length<9223372036854775807)
  (ZY:XR w (.slice sa o.ZK.length sc) o.ZK.length (YO o.ZK)) (hw:T.X4 o≠0) :
  Calls Tryz.prog 72 (Qi (some ⟨b,0,none⟩) (Jo o sa o.ZK.length sc ba bl bc)) w (UU b T o w):=by
 have cw:=We b T o sa ba sc bl bc (w.alloc (.cells (Jo o sa o.ZK.length sc ba bl bc) 32)) (hR.below (Z' _ _)) (Utf8Tabs_below hT (Z' _ _)) UT S0 (ZY.below (Z' _ _));have hb:=hR.lt;have QL:=Zh ZY;have HR:=Zh hR;have Mr:=Zh Vl;have HF:Hid (T.Wm o=(([],T),T.X4 o)):=by show _=_;unfold ZN.Wm;rw [ZR hw]
 have CW:=Zh cw;have hbn:(T.X4 o != 0)=true:=by rw [RQ];exact hw
 have uE:(T.X4 o == 0)=false:=by rw [WR];exact hw
 obtain ⟨kd,p,n,la,nm,ss⟩:=o;dsimp only at *
 clear hR Vl hT UT S0 ZY cw hw;generalize T.X4 ⟨kd,p,n,la,nm,ss⟩=wv at *
 have Ht:=Zh (Z8 w (.cells (Qa kd p n la (str nm) sa ss.length sc ba bl bc) 32));have F3:=World.size_alloc w (.cells (Qa kd p n la (str nm) sa ss.length sc ba bl bc) 32);have S5:Hid (Below w w (w.alloc (.cells (Qa kd p n la (str nm) sa ss.length sc ba bl bc) 32))):=Z' _ _;go_enter Tryz.func72,Tryz.ntmps72;go_wp2_with fail
 (with_reducible refine CW.o.mono ?_)
 rintro e w1 ⟨rfl,YY⟩;have V6:Hid (Below w w w1):=S5.o.trans (YY.mono Zo);have RX:w.heap.size<w1.heap.size:=by have:=YY.size;omega
 have V9:=fun (j:Nat)=>(YY.cell (p:=⟨w,j,none⟩) T_).trans (cell_of Ht.o j)
 have x0:w1.cell? ⟨w,0,none⟩=some (.int .i64 kd):=V9 0;have x1:w1.cell? ⟨w,1,none⟩=some (.int .i64 p):=V9 1;have x2:w1.cell? ⟨w,2,none⟩=some (.int .i64 n):=V9 2;have x3:w1.cell? ⟨w,3,none⟩=some (.int .i64 la):=V9 3;have x4:w1.cell? ⟨w,4,none⟩=some (.string (str nm)):=V9 4;have x5:w1.cell? ⟨w,5,none⟩=some (.slice sa ss.length sc):=V9 5;have x6:w1.cell? ⟨w,6,none⟩=some (.slice ba bl bc):=V9 6;clear YY V9;go_wp2
 go_ret2
 exact Vi HF (Row.nil _ _) (HR.o.below V6.o) (Fr.Z7 _ V6.o)
theorem tE (b:Nat) (T:ZN) (o:Op) (sa ba:Option Addr) (sc bl bc:Nat) (w:World) (hR:ZL w b T) (Vl:T.Small) (hT:Xz w) (UT:o.name.length<9223372036854775807) (S0:∀ x∈T.ZA,x.name.length<9223372036854775807)
  (ZY:XR w (.slice sa o.ZK.length sc) o.ZK.length (YO o.ZK)) (hw:T.X4 o=0) (Wq:rB T o) (hk:o.kind=3) :
  Calls Tryz.prog 72 (Qi (some ⟨b,0,none⟩) (Jo o sa o.ZK.length sc ba bl bc)) w (UU b T o w):=by
 have cw:=We b T o sa ba sc bl bc (w.alloc (.cells (Jo o sa o.ZK.length sc ba bl bc) 32)) (hR.below (Z' _ _)) (Utf8Tabs_below hT (Z' _ _)) UT S0 (ZY.below (Z' _ _));have hb:=hR.lt;have QL:=Zh ZY;have HR:=Zh hR;have Mr:=Zh Vl;have HF:Hid (T.Wm o=(T.leave o.peer,0)):=by show _=_;unfold ZN.Wm ZN.turns;rw [Z4 (by rw [hw];simp)];simp [hk]
 rw [hw] at cw;have CW:=Zh cw;have PJ:=Zh Wq;obtain ⟨kd,p,n,la,nm,ss⟩:=o;dsimp only at *
 subst hk;have C:=Zh (fun (w1:World) (h:ZL w1 b T)=>xG b T p w1 h Vl Wq.peer (Wq.leave rfl));clear hR Vl hT UT S0 ZY cw hw Wq;have Ht:=Zh (Z8 w (.cells (Qa 3 p n la (str nm) sa ss.length sc ba bl bc) 32));have F3:=World.size_alloc w (.cells (Qa 3 p n la (str nm) sa ss.length sc ba bl bc) 32);have S5:Hid (Below w w (w.alloc (.cells (Qa 3 p n la (str nm) sa ss.length sc ba bl bc) 32))):=Z' _ _;go_enter Tryz.func72,Tryz.ntmps72;go_wp2_with fail
 (with_reducible refine CW.o.mono ?_)
 rintro e w1 ⟨rfl,YY⟩;have V6:Hid (Below w w w1):=S5.o.trans (YY.mono Zo);have RX:w.heap.size<w1.heap.size:=by have:=YY.size;omega
 have V9:=fun (j:Nat)=>(YY.cell (p:=⟨w,j,none⟩) T_).trans (cell_of Ht.o j)
 have x0:w1.cell? ⟨w,0,none⟩=some (.int .i64 3):=V9 0;have x1:w1.cell? ⟨w,1,none⟩=some (.int .i64 p):=V9 1;have x2:w1.cell? ⟨w,2,none⟩=some (.int .i64 n):=V9 2;have x3:w1.cell? ⟨w,3,none⟩=some (.int .i64 la):=V9 3;have x4:w1.cell? ⟨w,4,none⟩=some (.string (str nm)):=V9 4;have x5:w1.cell? ⟨w,5,none⟩=some (.slice sa ss.length sc):=V9 5;have x6:w1.cell? ⟨w,6,none⟩=some (.slice ba bl bc):=V9 6;clear YY V9;go_wp2_with (go_at_call 97;(with_reducible refine (C.o w1 (HR.o.below V6.o)).mono ?_);rintro e w2 ⟨⟨tv,rfl,S3⟩,UX,Wu⟩)
 go_ret2
 exact Vi HF S3 UX ((Fr.Z7 _ V6.o).trans (Wu.mono Zo (fun _ _ h=>h)))
theorem Fx (b:Nat) (T:ZN) (o:Op) (sa ba:Option Addr) (sc bl bc:Nat) (w:World) (hR:ZL w b T) (Vl:T.Small) (hT:Xz w) (UT:o.name.length<9223372036854775807) (S0:∀ x∈T.ZA,x.name.length<9223372036854775807)
  (ZY:XR w (.slice sa o.ZK.length sc) o.ZK.length (YO o.ZK)) (hw:T.X4 o=0) (Wq:rB T o) (hk:o.kind=5) :
  Calls Tryz.prog 72 (Qi (some ⟨b,0,none⟩) (Jo o sa o.ZK.length sc ba bl bc)) w (UU b T o w):=by
 have cw:=We b T o sa ba sc bl bc (w.alloc (.cells (Jo o sa o.ZK.length sc ba bl bc) 32)) (hR.below (Z' _ _)) (Utf8Tabs_below hT (Z' _ _)) UT S0 (ZY.below (Z' _ _));have hb:=hR.lt;have QL:=Zh ZY;have HR:=Zh hR;have Mr:=Zh Vl;have HF:Hid (T.Wm o=(T.Yo o.source,0)):=by show _=_;unfold ZN.Wm ZN.turns;rw [Z4 (by rw [hw];simp)];simp [hk]
 rw [hw] at cw;have CW:=Zh cw;have PJ:=Zh Wq;obtain ⟨kd,p,n,la,nm,ss⟩:=o;dsimp only at *
 subst hk;have C:=Zh (fun (w1:World) (h:ZL w1 b T)=>PD b T n w1 h Vl (Wq.src Zi));clear hR Vl hT UT S0 ZY cw hw Wq;have Ht:=Zh (Z8 w (.cells (Qa 5 p n la (str nm) sa ss.length sc ba bl bc) 32));have F3:=World.size_alloc w (.cells (Qa 5 p n la (str nm) sa ss.length sc ba bl bc) 32);have S5:Hid (Below w w (w.alloc (.cells (Qa 5 p n la (str nm) sa ss.length sc ba bl bc) 32))):=Z' _ _;go_enter Tryz.func72,Tryz.ntmps72;go_wp2_with fail
 (with_reducible refine CW.o.mono ?_)
 rintro e w1 ⟨rfl,YY⟩;have V6:Hid (Below w w w1):=S5.o.trans (YY.mono Zo);have RX:w.heap.size<w1.heap.size:=by have:=YY.size;omega
 have V9:=fun (j:Nat)=>(YY.cell (p:=⟨w,j,none⟩) T_).trans (cell_of Ht.o j)
 have x0:w1.cell? ⟨w,0,none⟩=some (.int .i64 5):=V9 0;have x1:w1.cell? ⟨w,1,none⟩=some (.int .i64 p):=V9 1;have x2:w1.cell? ⟨w,2,none⟩=some (.int .i64 n):=V9 2;have x3:w1.cell? ⟨w,3,none⟩=some (.int .i64 la):=V9 3;have x4:w1.cell? ⟨w,4,none⟩=some (.string (str nm)):=V9 4;have x5:w1.cell? ⟨w,5,none⟩=some (.slice sa ss.length sc):=V9 5;have x6:w1.cell? ⟨w,6,none⟩=some (.slice ba bl bc):=V9 6;clear YY V9;go_wp2_with (go_at_call 98;(with_reducible refine (C.o w1 (HR.o.below V6.o)).mono ?_);rintro e w2 ⟨⟨tv,rfl,S3⟩,UX,Wu⟩)
 go_ret2
 exact Vi HF S3 UX ((Fr.Z7 _ V6.o).trans (Wu.mono Zo (fun _ _ h=>h)))
theorem pS (b:Nat) (T:ZN) (o:Op) (sa ba:Option Addr) (sc bl bc:Nat) (w:World) (hR:ZL w b T) (Vl:T.Small) (hT:Xz w) (UT:o.name.length<9223372036854775807) (S0:∀ x∈T.ZA,x.name.length<9223372036854775807)
  (ZY:XR w (.slice sa o.ZK.length sc) o.ZK.length (YO o.ZK)) (hw:T.X4 o=0) (Wq:rB T o) (hk:o.kind=8) :
  Calls Tryz.prog 72 (Qi (some ⟨b,0,none⟩) (Jo o sa o.ZK.length sc ba bl bc)) w (UU b T o w):=by
 have cw:=We b T o sa ba sc bl bc (w.alloc (.cells (Jo o sa o.ZK.length sc ba bl bc) 32)) (hR.below (Z' _ _)) (Utf8Tabs_below hT (Z' _ _)) UT S0 (ZY.below (Z' _ _));have hb:=hR.lt;have QL:=Zh ZY;have HR:=Zh hR;have Mr:=Zh Vl;have HF:Hid (T.Wm o=(T.mute o.source true,0)):=by show _=_;unfold ZN.Wm ZN.turns;rw [Z4 (by rw [hw];simp)];simp [hk]
 rw [hw] at cw;have CW:=Zh cw;have PJ:=Zh Wq;obtain ⟨kd,p,n,la,nm,ss⟩:=o;dsimp only at *
 subst hk;have C:=Zh (fun (w1:World) (h:ZL w1 b T)=>pU b T n w1 h Vl (Wq.src Zi));clear hR Vl hT UT S0 ZY cw hw Wq;have Ht:=Zh (Z8 w (.cells (Qa 8 p n la (str nm) sa ss.length sc ba bl bc) 32));have F3:=World.size_alloc w (.cells (Qa 8 p n la (str nm) sa ss.length sc ba bl bc) 32);have S5:Hid (Below w w (w.alloc (.cells (Qa 8 p n la (str nm) sa ss.length sc ba bl bc) 32))):=Z' _ _;go_enter Tryz.func72,Tryz.ntmps72;go_wp2_with fail
 (with_reducible refine CW.o.mono ?_)
 rintro e w1 ⟨rfl,YY⟩;have V6:Hid (Below w w w1):=S5.o.trans (YY.mono Zo);have RX:w.heap.size<w1.heap.size:=by have:=YY.size;omega
 have V9:=fun (j:Nat)=>(YY.cell (p:=⟨w,j,none⟩) T_).trans (cell_of Ht.o j)
 have x0:w1.cell? ⟨w,0,none⟩=some (.int .i64 8):=V9 0;exact Yx48
theorem xA (b:Nat) (T:ZN) (o:Op) (sa ba:Option Addr) (sc bl bc:Nat) (w:World) (hR:ZL w b T) (Vl:T.Small) (hT:Xz w) (UT:o.name.length<9223372036854775807) (S0:∀ x∈T.ZA,x.name.length<9223372036854775807)
  (ZY:XR w (.slice sa o.ZK.length sc) o.ZK.length (YO o.ZK)) (hw:T.X4 o=0) (Wq:rB T o) (hk:o.kind=9) :
  Calls Tryz.prog 72 (Qi (some ⟨b,0,none⟩) (Jo o sa o.ZK.length sc ba bl bc)) w (UU b T o w):=by
 have cw:=We b T o sa ba sc bl bc (w.alloc (.cells (Jo o sa o.ZK.length sc ba bl bc) 32)) (hR.below (Z' _ _)) (Utf8Tabs_below hT (Z' _ _)) UT S0 (ZY.below (Z' _ _));have hb:=hR.lt;have QL:=Zh ZY;have HR:=Zh hR;have Mr:=Zh Vl;have HF:Hid (T.Wm o=(T.mute o.source false,0)):=by show _=_;unfold ZN.Wm ZN.turns;rw [Z4 (by rw [hw];simp)];simp [hk]
 rw [hw] at cw;have CW:=Zh cw;have PJ:=Zh Wq;obtain ⟨kd,p,n,la,nm,ss⟩:=o;dsimp only at *
 subst hk;have C:=Zh (fun (w1:World) (h:ZL w1 b T)=>tK b T n w1 h Vl (Wq.src Zi) (Wq.eG rfl));clear hR Vl hT UT S0 ZY cw hw Wq;have Ht:=Zh (Z8 w (.cells (Qa 9 p n la (str nm) sa ss.length sc ba bl bc) 32));have F3:=World.size_alloc w (.cells (Qa 9 p n la (str nm) sa ss.length sc ba bl bc) 32);have S5:Hid (Below w w (w.alloc (.cells (Qa 9 p n la (str nm) sa ss.length sc ba bl bc) 32))):=Z' _ _;go_enter Tryz.func72,Tryz.ntmps72;go_wp2_with fail
 (with_reducible refine CW.o.mono ?_)
 rintro e w1 ⟨rfl,YY⟩;have V6:Hid (Below w w w1):=S5.o.trans (YY.mono Zo);have RX:w.heap.size<w1.heap.size:=by have:=YY.size;omega
 have V9:=fun (j:Nat)=>(YY.cell (p:=⟨w,j,none⟩) T_).trans (cell_of Ht.o j)
 have x0:w1.cell? ⟨w,0,none⟩=some (.int .i64 9):=V9 0;exact Yx48
theorem tF (b:Nat) (T:ZN) (o:Op) (sa ba:Option Addr) (sc bl bc:Nat) (w:World) (hR:ZL w b T) (Vl:T.Small) (hT:Xz w) (UT:o.name.length<9223372036854775807) (S0:∀ x∈T.ZA,x.name.length<9223372036854775807)
  (ZY:XR w (.slice sa o.ZK.length sc) o.ZK.length (YO o.ZK)) (hw:T.X4 o=0) (Wq:rB T o) (hk:o.kind=10) :
  Calls Tryz.prog 72 (Qi (some ⟨b,0,none⟩) (Jo o sa o.ZK.length sc ba bl bc)) w (UU b T o w):=by
 have cw:=We b T o sa ba sc bl bc (w.alloc (.cells (Jo o sa o.ZK.length sc ba bl bc) 32)) (hR.below (Z' _ _)) (Utf8Tabs_below hT (Z' _ _)) UT S0 (ZY.below (Z' _ _));have hb:=hR.lt;have QL:=Zh ZY;have HR:=Zh hR;have Mr:=Zh Vl;have HF:Hid (T.Wm o=(T.change o 4,0)):=by show _=_;unfold ZN.Wm ZN.turns;rw [Z4 (by rw [hw];simp)];simp [hk]
 rw [hw] at cw;have CW:=Zh cw;have PJ:=Zh Wq;obtain ⟨kd,p,n,la,nm,ss⟩:=o;dsimp only at *
 subst hk;have C:=Zh (fun (w1:World) (h:ZL w1 b T)=>BV b T ⟨10,p,n,la,nm,ss⟩ sa ba ss.length sc bl bc w1 h Vl (Wq.sub Zi) (Wq.src Zi) (Wq.change 4 (Ws ⟨rfl,rfl⟩)));clear hR Vl hT UT S0 ZY cw hw Wq;have Ht:=Zh (Z8 w (.cells (Qa 10 p n la (str nm) sa ss.length sc ba bl bc) 32));have F3:=World.size_alloc w (.cells (Qa 10 p n la (str nm) sa ss.length sc ba bl bc) 32);have S5:Hid (Below w w (w.alloc (.cells (Qa 10 p n la (str nm) sa ss.length sc ba bl bc) 32))):=Z' _ _;go_enter Tryz.func72,Tryz.ntmps72;go_wp2_with fail
 (with_reducible refine CW.o.mono ?_)
 rintro e w1 ⟨rfl,YY⟩;have V6:Hid (Below w w w1):=S5.o.trans (YY.mono Zo);have RX:w.heap.size<w1.heap.size:=by have:=YY.size;omega
 have V9:=fun (j:Nat)=>(YY.cell (p:=⟨w,j,none⟩) T_).trans (cell_of Ht.o j)
 have x0:w1.cell? ⟨w,0,none⟩=some (.int .i64 10):=V9 0;exact bK
theorem xy (b:Nat) (T:ZN) (o:Op) (sa ba:Option Addr) (sc bl bc:Nat) (w:World) (hR:ZL w b T) (Vl:T.Small) (hT:Xz w) (UT:o.name.length<9223372036854775807) (S0:∀ x∈T.ZA,x.name.length<9223372036854775807)
  (ZY:XR w (.slice sa o.ZK.length sc) o.ZK.length (YO o.ZK)) (hw:T.X4 o=0) (Wq:rB T o) (hk:o.kind=11) :
  Calls Tryz.prog 72 (Qi (some ⟨b,0,none⟩) (Jo o sa o.ZK.length sc ba bl bc)) w (UU b T o w):=by
 have cw:=We b T o sa ba sc bl bc (w.alloc (.cells (Jo o sa o.ZK.length sc ba bl bc) 32)) (hR.below (Z' _ _)) (Utf8Tabs_below hT (Z' _ _)) UT S0 (ZY.below (Z' _ _));have hb:=hR.lt;have QL:=Zh ZY;have HR:=Zh hR;have Mr:=Zh Vl;have HF:Hid (T.Wm o=(T.change o 5,0)):=by show _=_;unfold ZN.Wm ZN.turns;rw [Z4 (by rw [hw];simp)];simp [hk]
 rw [hw] at cw;have CW:=Zh cw;have PJ:=Zh Wq;obtain ⟨kd,p,n,la,nm,ss⟩:=o;dsimp only at *
 subst hk;have C:=Zh (fun (w1:World) (h:ZL w1 b T)=>E8 b T ⟨11,p,n,la,nm,ss⟩ sa ba ss.length sc bl bc w1 h Vl (Wq.sub Zi) (Wq.src Zi) (Wq.change 5 (Wh (Ws ⟨rfl,rfl⟩))));clear hR Vl hT UT S0 ZY cw hw Wq;have Ht:=Zh (Z8 w (.cells (Qa 11 p n la (str nm) sa ss.length sc ba bl bc) 32));have F3:=World.size_alloc w (.cells (Qa 11 p n la (str nm) sa ss.length sc ba bl bc) 32);have S5:Hid (Below w w (w.alloc (.cells (Qa 11 p n la (str nm) sa ss.length sc ba bl bc) 32))):=Z' _ _;go_enter Tryz.func72,Tryz.ntmps72;go_wp2_with fail
 (with_reducible refine CW.o.mono ?_)
 rintro e w1 ⟨rfl,YY⟩;have V6:Hid (Below w w w1):=S5.o.trans (YY.mono Zo);have RX:w.heap.size<w1.heap.size:=by have:=YY.size;omega
 have V9:=fun (j:Nat)=>(YY.cell (p:=⟨w,j,none⟩) T_).trans (cell_of Ht.o j)
 have x0:w1.cell? ⟨w,0,none⟩=some (.int .i64 11):=V9 0;exact bK
theorem pT (b:Nat) (T:ZN) (o:Op) (sa ba:Option Addr) (sc bl bc:Nat) (w:World) (hR:ZL w b T) (Vl:T.Small) (hT:Xz w) (UT:o.name.length<9223372036854775807) (S0:∀ x∈T.ZA,x.name.length<9223372036854775807)
  (ZY:XR w (.slice sa o.ZK.length sc) o.ZK.length (YO o.ZK)) (hw:T.X4 o=0) (Wq:rB T o) (hk:o.kind=12) :
  Calls Tryz.prog 72 (Qi (some ⟨b,0,none⟩) (Jo o sa o.ZK.length sc ba bl bc)) w (UU b T o w):=by
 have cw:=We b T o sa ba sc bl bc (w.alloc (.cells (Jo o sa o.ZK.length sc ba bl bc) 32)) (hR.below (Z' _ _)) (Utf8Tabs_below hT (Z' _ _)) UT S0 (ZY.below (Z' _ _));have hb:=hR.lt;have QL:=Zh ZY;have HR:=Zh hR;have Mr:=Zh Vl;have HF:Hid (T.Wm o=(T.change o 8,0)):=by show _=_;unfold ZN.Wm ZN.turns;rw [Z4 (by rw [hw];simp)];simp [hk]
 rw [hw] at cw;have CW:=Zh cw;have PJ:=Zh Wq;obtain ⟨kd,p,n,la,nm,ss⟩:=o;dsimp only at *
 subst hk;have C:=Zh (fun (w1:World) (h:ZL w1 b T)=>zy b T ⟨12,p,n,la,nm,ss⟩ sa ba ss.length sc bl bc w1 h Vl (Wq.sub Zi) (Wq.src Zi) (Wq.change 8 (Wh (Wh ⟨rfl,rfl⟩))));clear hR Vl hT UT S0 ZY cw hw Wq;have Ht:=Zh (Z8 w (.cells (Qa 12 p n la (str nm) sa ss.length sc ba bl bc) 32));have F3:=World.size_alloc w (.cells (Qa 12 p n la (str nm) sa ss.length sc ba bl bc) 32);have S5:Hid (Below w w (w.alloc (.cells (Qa 12 p n la (str nm) sa ss.length sc ba bl bc) 32))):=Z' _ _;go_enter Tryz.func72,Tryz.ntmps72;go_wp2_with fail
 (with_reducible refine CW.o.mono ?_)
 rintro e w1 ⟨rfl,YY⟩;have V6:Hid (Below w w w1):=S5.o.trans (YY.mono Zo);have RX:w.heap.size<w1.heap.size:=by have:=YY.size;omega
 have V9:=fun (j:Nat)=>(YY.cell (p:=⟨w,j,none⟩) T_).trans (cell_of Ht.o j)
 have x0:w1.cell? ⟨w,0,none⟩=some (.int .i64 12):=V9 0;exact bK
theorem IG (b:Nat) (T:ZN) (o:Op) (sa ba:Option Addr) (sc bl bc:Nat) (w:World) (hR:ZL w b T) (Vl:T.Small) (hT:Xz w) (UT:o.name.length<9223372036854775807) (S0:∀ x∈T.ZA,x.name.length<9223372036854775807)
  (ZY:XR w (.slice sa o.ZK.length sc) o.ZK.length (YO o.ZK)) (hw:T.X4 o=0) (Wq:rB T o) (hk:o.kind=7) :
  Calls Tryz.prog 72 (Qi (some ⟨b,0,none⟩) (Jo o sa o.ZK.length sc ba bl bc)) w (UU b T o w):=by
 have cw:=We b T o sa ba sc bl bc (w.alloc (.cells (Jo o sa o.ZK.length sc ba bl bc) 32)) (hR.below (Z' _ _)) (Utf8Tabs_below hT (Z' _ _)) UT S0 (ZY.below (Z' _ _));have hb:=hR.lt;have QL:=Zh ZY;have HR:=Zh hR;have Mr:=Zh Vl;have HF:Hid (T.Wm o=(([⟨2,o.peer,o.source,0,0⟩],T.WN o.peer o.source),0)):=by show _=_;unfold ZN.Wm ZN.turns;rw [Z4 (by rw [hw];simp)];simp [hk]
 rw [hw] at cw;have CW:=Zh cw;have PJ:=Zh Wq;obtain ⟨kd,p,n,la,nm,ss⟩:=o;dsimp only at *
 subst hk;have C:Hid (∀ w1,ZL w1 b T→Calls Tryz.prog 100 (Qu (some ⟨b,0,none⟩) p n) w1 fun e w'=>e = .returned (.agg (Qh 2 p n 0 0))∧ZL w' b (T.WN p n)∧Fr w1 (· = b) w1 w'):=fun w1 h=>LY b T p n w1 h Vl (Wq.sub Zi)
 clear hR Vl hT UT S0 ZY cw hw Wq;have Ht:=Zh (Z8 w (.cells (Qa 7 p n la (str nm) sa ss.length sc ba bl bc) 32));have F3:=World.size_alloc w (.cells (Qa 7 p n la (str nm) sa ss.length sc ba bl bc) 32);have S5:Hid (Below w w (w.alloc (.cells (Qa 7 p n la (str nm) sa ss.length sc ba bl bc) 32))):=Z' _ _;go_enter Tryz.func72,Tryz.ntmps72;go_wp2_with fail
 (with_reducible refine CW.o.mono ?_)
 rintro e w1 ⟨rfl,YY⟩;have V6:Hid (Below w w w1):=S5.o.trans (YY.mono Zo);have RX:w.heap.size<w1.heap.size:=by have:=YY.size;omega
 have V9:=fun (j:Nat)=>(YY.cell (p:=⟨w,j,none⟩) T_).trans (cell_of Ht.o j)
 have x0:w1.cell? ⟨w,0,none⟩=some (.int .i64 7):=V9 0;have x1:w1.cell? ⟨w,1,none⟩=some (.int .i64 p):=V9 1;have x2:w1.cell? ⟨w,2,none⟩=some (.int .i64 n):=V9 2;have x3:w1.cell? ⟨w,3,none⟩=some (.int .i64 la):=V9 3;have x4:w1.cell? ⟨w,4,none⟩=some (.string (str nm)):=V9 4;have x5:w1.cell? ⟨w,5,none⟩=some (.slice sa ss.length sc):=V9 5;have x6:w1.cell? ⟨w,6,none⟩=some (.slice ba bl bc):=V9 6;clear YY V9;go_wp2_with (go_at_call 100;(with_reducible refine (C.o w1 (HR.o.below V6.o)).mono ?_);rintro e w2 ⟨rfl,UX,Wu⟩;have Vm:=Zh UX;have T8:=Zh Wu;have sJ:=Wu.size;clear UX Wu)
 go_ret2
 exact Vi HF (Yr _ _ 1 _ ([⟨2,p,n,0,0⟩].flatMap Z9) Zd rfl) (Vm.o.alloc _) (((Fr.Z7 _ V6.o).trans (T8.o.mono Zo (fun _ _ h=>h))).alloc Zo _)
end Go.Proofs.Rm
namespace Go.Proofs.Heap
open Go Go.RowKit
section
variable {P:Program}
theorem pW {w:World} (t ty:TypeId) (base:Nat) {e:TypeId} {size bytes:Nat} (E:Elem P t e size bytes) (v:Value) (n:Nat) (xs:List Value) (YH:w.ownsRow base e size v n xs)
  (vx:Value) (m:Nat) (news:List Value) (ZY:XR w vx m news) (hl:news.length=m*size) (h1:∀ u∈news,u.oneCell'=true)
  (Ur:(n+m)*bytes≤140737488355328) (nT:n+m≤9223372036854775807) (R_:base≤w.heap.size) :
  ∃ v' w',(Builtin.append_ #[t,t] ty #[v,vx]).run P w = .ok v' w'∧w'.ownsRow base e size v' (n+m) (xs++news)∧w.grownBy w' v.ownBlock:=by
 obtain ⟨z,Uz,lH⟩:=E.info;obtain ⟨i,hi,hz,Sg,oh⟩:=info_parts Uz;obtain ⟨ad,cap,hv,_,_,h0,hr⟩:=ZY;subst hv;have wm:n+m≤maxLen:=by unfold maxLen;omega
 cases ad with
 | none=>
  exact fy
 | some ad=>
  obtain ⟨v',w',Co,h2,h3,_⟩:=run_append_own w base t ty e i z size bytes E.ht hi hz Sg oh lH E.pos v n xs YH ad m cap news hl (by
   intro j u hu;rcases hr with hr|⟨b,off,NS,PV,hc⟩
   ·subst hr;simp at hu
   ·cases NS;have hj:j<news.length:=(List.getElem?_eq_some_iff.1 hu).1;have:=hc j hj;have Nk:(⟨b,off,none⟩:Addr).add j=⟨b,off+j,none⟩:=by unfold Addr.add;split <;> simp_all
    rw [Nk,this]
    exact hu) h1 wm Ur R_
  exact ⟨v',w',Co,h2,h3⟩
theorem Rk {ops:Array Oper} {o:Oper} {a:Act} {w:World} {K:Act→World→Prop} {Q:Exit→Act→World→Prop} {E':Prop} (Mb:o.guard=none) (s x:Operand) (t:TypeId)
  (ho:o.op = .call {callee:= .builtin .append,args:=#[s,x],argTypes:=#[t,t]})
  (base:Nat) {e:TypeId} {size bytes:Nat} (E:Elem P t e size bytes)
  (v:Value) (n:Nat) (xs:List Value) (hs:a.eval s=v) (YH:w.ownsRow base e size v n xs)
  (vx:Value) (m:Nat) (news:List Value) (hx:a.eval x=vx) (ZY:XR w vx m news) (hl:news.length=m*size) (h1:∀ u∈news,u.oneCell'=true)
  (Ur:(n+m)*bytes≤140737488355328) (nT:n+m≤9223372036854775807) (R_:base≤w.heap.size)
  (h:∀ v' w',Hid (w'.ownsRow base e size v' (n+m) (xs++news))→Hid (w.grownBy w' v.ownBlock)→K (a.put o.dst v') w') :
  if Region.wanted o (yielded ops a.tmps)=true then Oper.wp P o a w K Q else E':=by
 have hw:Region.wanted o (yielded ops a.tmps)=true:=by simp [Region.wanted,Mb]
 rw [ZR hw];obtain ⟨v',w',Co,h2,h3⟩:=pW (P:=P) t o.type base E v n xs YH vx m news ZY hl h1 Ur nT R_;unfold Oper.wp;simp [execOp,ho,resolve,invoke,builtin,hs,hx,Co,Result.andThen];exact h v' w' h2 h3
end
end Go.Proofs.Heap
namespace Go.Proofs.Rm
open Go.RowKit Go.Proofs.Heap Go.Proofs.Mem
open Go.Proofs.NM (may key Xz)
theorem Tf (w:World) (e:TypeId) (n:Nat) (xs:List Value) (hn:n≤maxLen) (v:Value) (hv:v = .slice (some ⟨w,0,none⟩) n n):Row (w.alloc (.cells xs.toArray e)) e v n xs:=by
 subst hv;exact Lr w e n xs hn
theorem XD {w w':World} (hg:w.grownBy w' (Value.slice none 0 0).ownBlock):Below w w w':=(YJ _ _).grown hg (Zw _) (fun k hk=>by cases hk)
theorem pR (b:Nat) (T:ZN) (o:Op) (sa ba:Option Addr) (sc bl bc:Nat) (w:World) (hR:ZL w b T) (Vl:T.Small) (hT:Xz w) (UT:o.name.length<9223372036854775807) (S0:∀ x∈T.ZA,x.name.length<9223372036854775807)
  (ZY:XR w (.slice sa o.ZK.length sc) o.ZK.length (YO o.ZK)) (hw:T.X4 o=0) (Wq:rB T o) (hk:o.kind=2) :
  Calls Tryz.prog 72 (Qi (some ⟨b,0,none⟩) (Jo o sa o.ZK.length sc ba bl bc)) w (UU b T o w):=by
 have cw:=We b T o sa ba sc bl bc (w.alloc (.cells (Jo o sa o.ZK.length sc ba bl bc) 32)) (hR.below (Z' _ _)) (Utf8Tabs_below hT (Z' _ _)) UT S0 (ZY.below (Z' _ _));have hb:=hR.lt;have QL:=Zh ZY;have HR:=Zh hR;have Mr:=Zh Vl;have HF:Hid (T.Wm o=(([],T.MQ ⟨o.peer,o.name⟩),0)):=by show _=_;unfold ZN.Wm ZN.turns;rw [Z4 (by rw [hw];simp)];simp [hk]
 rw [hw] at cw;have CW:=Zh cw;have PJ:=Zh Wq;obtain ⟨kd,p,n,la,nm,ss⟩:=o;dsimp only at *
 subst hk;have Ab:=Vl.ZA;unfold small at Ab;obtain ⟨pv,sv,uv,Yn,XJ⟩:=hR.Vw;have U0:=XJ.ZA;obtain ⟨a,cap,rfl,O9,-,-,-⟩:=id U0;have IP:Hid (∀ w',Below w w w'→Row w' 103 (.slice a T.ZA.length cap) T.ZA.length (T.ZA.flatMap Yx)):=fun w' h=>U0.below h
 have Bv:=Zh (Pk T.ZA);have HC:Hid (∀ w',Below w w w'→w'.cell? ⟨b,0,none⟩=some (.slice a T.ZA.length cap)∧w'.frozen? ⟨b,0,none⟩=false):=fun w' h=>⟨(h.cell (p:=⟨b,0,none⟩) hb).trans (cell_of Yn 0),(h.frozen (p:=⟨b,0,none⟩) hb).trans (hR.Yz 0)⟩
 clear U0 Yn XJ;clear hR Vl hT UT S0 ZY cw hw Wq;have Ht:=Zh (Z8 w (.cells (Qa 2 p n la (str nm) sa ss.length sc ba bl bc) 32));have F3:=World.size_alloc w (.cells (Qa 2 p n la (str nm) sa ss.length sc ba bl bc) 32);have S5:Hid (Below w w (w.alloc (.cells (Qa 2 p n la (str nm) sa ss.length sc ba bl bc) 32))):=Z' _ _;go_enter Tryz.func72,Tryz.ntmps72;go_wp2_with fail
 (with_reducible refine CW.o.mono ?_)
 rintro e w1 ⟨rfl,YY⟩;have V6:Hid (Below w w w1):=S5.o.trans (YY.mono Zo);have RX:w.heap.size<w1.heap.size:=by have:=YY.size;omega
 have V9:=fun (j:Nat)=>(YY.cell (p:=⟨w,j,none⟩) T_).trans (cell_of Ht.o j)
 have x0:w1.cell? ⟨w,0,none⟩=some (.int .i64 2):=V9 0;have x1:w1.cell? ⟨w,1,none⟩=some (.int .i64 p):=V9 1;have x2:w1.cell? ⟨w,2,none⟩=some (.int .i64 n):=V9 2;have x3:w1.cell? ⟨w,3,none⟩=some (.int .i64 la):=V9 3;have x4:w1.cell? ⟨w,4,none⟩=some (.string (str nm)):=V9 4;have x5:w1.cell? ⟨w,5,none⟩=some (.slice sa ss.length sc):=V9 5;have x6:w1.cell? ⟨w,6,none⟩=some (.slice ba bl bc):=V9 6;clear YY V9;have Zz:Hid (∀ w',Below w1 w1 w'→w'.cell? ⟨b,0,none⟩=some (.slice a T.ZA.length cap)∧w'.frozen? ⟨b,0,none⟩=false∧w'.cell? ⟨w,1,none⟩=some (.int .i64 p)∧w'.cell? ⟨w,4,none⟩=some (.string (str nm))):=fun w' h=>⟨(HC.o _ (V6.o.trans (h.mono Zo))).1,(HC.o _ (V6.o.trans (h.mono Zo))).2,(h.cell (p:=⟨w,1,none⟩) RX).trans x1,(h.cell (p:=⟨w,4,none⟩) RX).trans x4⟩
 have Sz:Hid (∀ w',Below w1 w1 w'→Row w' 103 (.slice a T.ZA.length cap) T.ZA.length (T.ZA.flatMap Yx)):=fun w' h=>IP.o _ (V6.o.trans (h.mono Zo))
 have mA:Hid (∀ w',Below w1 w1 w'→ZL w' b T∧Fr w (· = b) w w'):=fun w' h=>⟨HR.o.below (V6.o.trans (h.mono Zo)),Fr.Z7 _ (V6.o.trans (h.mono Zo))⟩
 have IU:Hid (∀ w',Fr w1 (· = b) w1 w'→w'.cell? ⟨w,1,none⟩=some (.int .i64 p)∧w'.cell? ⟨w,4,none⟩=some (.string (str nm))∧Fr w1 (· = b) w1 w'):=fun w' h=>⟨(h.cell (p:=⟨w,1,none⟩) RX T_).trans x1,(h.cell (p:=⟨w,4,none⟩) RX T_).trans x4,h⟩
 have NT:Below w1 w1 w1:=YJ _ _;obtain ⟨k0,k1,-,-⟩:=Zz.o _ NT;have hbw1:b<w1.heap.size:=by omega
 have ne1:=World.new_ne w1 ⟨b,0,none⟩ k0;clear IP HC;go_upto_region 6 with fail
 refine SX ?_;refine wp_region_held_drew (S:=(fun w'=>w'.cell? ⟨w,1,none⟩=some (.int .i64 p)∧w'.cell? ⟨w,4,none⟩=some (.string (str nm))∧Fr w1 (· = b) w1 w')) ZB ?_ (fun _=>?_)
 ·exact Nh
 refine YA 0 (h:=YA 1 (h:=YA 2 (h:=YA 3 (h:=YA 6 (h:=YA 7 (h:=YA 8 (h:=YA 9 (h:=YA 10 (h:=?_)))))))));refine wpAnyH_ready (rs:=[4,11]) ZB Zi ?_;refine AllReadyH.cons (i:=4) rfl (fun K hK=>?_) ?_
 ·go_simp;refine hK.out _ _ ?_ (fun _=>?_)
  ·exact Nh
  clear hK K;try simp only [Z_.pt]
  refine wpAnyH_ready (rs:=[5,11]) ZB Zi ?_;refine AllReadyH.cons (i:=5) rfl (fun K hK=>?_) ?_
  ·(first|(go_split_ands;refine Zp Zr (.const (.slice none 0 0)) (.tmp 23) 47 Zr w1.heap.size TQ (.slice none 0 0) 0 [] Zr (TY _ _ _ _) (.slice a T.ZA.length cap) T.ZA.length (T.ZA.flatMap Yx) Zr ?_ Bv.o (Pm _) Zo Zo ?_ ?_;(exact Sz.o _ Wd);(exact Below.size Wd);intro v1 w2 T9 OH;have Uk:=XD OH.o;have Yq:Below w1 w1 w2:=Heap.Below.call Wd (Zw _) Uk;obtain ⟨k2,k3,k4,k5⟩:=Zz.o _ Yq)|(go_split_ands;refine Zp Zr (.tmp 24) (.tmp 30) 47 Zr w1.heap.size TQ v1 (0+T.ZA.length) ([]++T.ZA.flatMap Yx) Zr ?_ _ 1 (Q3 p (str nm)) Zr ?_ Zr (Li ⟨p,nm⟩) Zo Zo ?_ ?_;(repeat (first|with_reducible exact T9.o|with_reducible refine Xd ?_|with_reducible refine World.ownsRow.alloc ?_ _));(repeat (first|((with_reducible refine Tf _ _ 1 (Q3 p (str nm)) Zd _ ?_);rfl)|with_reducible refine Row.drew ?_|with_reducible refine Row.below ?_ Uk));(exact Below.size Wd);intro v2 w3 Px KF;have Wn:Below w1 w1 w3:=Below.grown Wd KF.o (Below.size Wd) (YL T9.o);obtain ⟨k6,k7,k8,k9⟩:=Zz.o _ Wn;obtain ⟨va,vc,hv⟩:=WE Px.o;subst hv))
   refine hK.out _ _ ?_ (fun _=>?_)
   ·exact Nh
   clear hK K;try simp only [Z_.pt]
   refine wpAnyH_ready (rs:=[11]) ZB Zi ?_;refine AllReadyH.cons (i:=11) rfl (fun K hK=>?_) ?_
   ·go_simp;exact Yx6
   exact AllReadyH.nil
  refine AllReadyH.cons (i:=11) rfl (fun K hK=>?_) ?_
  ·exact Yx27
  exact AllReadyH.nil
 refine AllReadyH.cons (i:=11) rfl (fun K hK=>?_) ?_
 ·go_simp;refine hK.out _ _ ?_ (fun _=>?_)
  ·exact Nh
  clear hK K;try simp only [Z_.pt]
  refine wpAnyH_ready (rs:=[4]) ZB Zi ?_;refine AllReadyH.cons (i:=4) rfl (fun K hK=>?_) ?_
  ·exact Yx27
  exact AllReadyH.nil
 exact AllReadyH.nil
end Go.Proofs.Rm
