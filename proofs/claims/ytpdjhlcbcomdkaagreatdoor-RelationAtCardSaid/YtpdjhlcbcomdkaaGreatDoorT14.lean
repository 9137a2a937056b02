/- Part of a proof. -/
import Derived.Test.YtpdjhlcbcomdkaaGreatDoorT13
set_option linter.unusedVariables false
set_option linter.unusedSimpArgs false
set_option maxRecDepth 100000
set_option maxHeartbeats 16000000
open Go Go.Q Go.Qr Go.Proofs.Tryz
namespace Go.Proofs.Rm
open Go.RowKit Go.Proofs.Heap Go.Proofs.Mem
open Go.Proofs.ND (may key Xu)
structure o8(T:ZO)(o:Op):Prop where
 kind:2≤o.kind∧o.kind≤12
 peer:1≤o.peer
 ssl:o.kind=4→o.ZK.length≤3
 leave:o.kind=3→0≤T.XD o.peer
 src:5≤o.kind→0≤T.YV o.source
 ZI:o.kind=6→0≤o.ZI∧o.ZI<(T.V6 o.source).ss.length
 sub:o.kind=7∨10≤o.kind→0≤T.Y6 o.peer o.source
 bp:o.kind=9→∀x∈(T.ZJ o.source false).ZY,x.source=o.source→0≤(T.ZJ o.source false).YV o.source∧0≤x.want∧x.want<((T.ZJ o.source false).V6 o.source).ss.length
 change:∀k,(o.kind=10∧k=4∨o.kind=11∧k=5∨o.kind=12∧k=8)→0≤(T.changed o k).want∧(T.changed o k).want<(T.V6 o.source).ss.length
def UU(b:Nat)(T:ZO)(o:Op)(w:World)(e:Ending)(w':World):Prop:=
 (∃v,e = .returned (.tuple #[v,.int .i64 (T.WG o).2])∧YD w' v (T.WG o).1.1)∧ZM w' b (T.WG o).1.2∧Fr w (· = b) w w'
theorem Vj{b:Nat}{T T':ZO}{o:Op}{w w':World}{v:Value}{l:List YF}{c:Int}(h:Hid (T.WG o=((l,T'),c)))(h1:YD w' v l)(h2:ZM w' b T')(h3:Fr w (· = b) w w'):UU b T o w (.returned (.tuple #[v,.int .i64 c])) w':=by
 unfold UU;rw[h.o];exact⟨⟨v,rfl,h1⟩,h2,h3⟩
theorem iz(b:Nat)(T:ZO)(o:Op)(sa ba:Option Addr)(sc bl bc:Nat)(w:World)(hR:ZM w b T)(Vl:T.Small)(hT:Xu w)(UT:o.name.length<9223372036854775807)(SV:∀x∈T.Zz,x.name.length<9223372036854775807)
  (ZW:XM w (.slice sa o.ZK.length sc) o.ZK.length (YN o.ZK)) (hw:T.XW o≠0) :
  Calls prog 72 (Qi (some ⟨b,0,none⟩) (Jq o sa o.ZK.length sc ba bl bc)) w (UU b T o w):=by
 have cw:=V9 b T o sa ba sc bl bc (w.alloc (.cells (Jq o sa o.ZK.length sc ba bl bc) 32)) (hR.below (Z' _ _)) (Utf8Tabs_below hT (Z' _ _)) UT SV (ZW.below (Z' _ _));have hb:=hR.lt;have P_:=Zh ZW;have HR:=Zh hR;have LY:=Zh Vl;have HF:Hid (T.WG o=(([],T),T.XW o)):=by show _=_;unfold ZO.WG;rw[ZU hw]
 have CW:=Zh cw;have R8:(T.XW o !=0)=true:=by rw[RH];exact hw
 have sk:(T.XW o==0)=false:=by rw[WM];exact hw
 obtain⟨kd,p,n,la,nm,ss⟩:=o;dsimp only at *
 clear hR Vl hT UT SV ZW cw hw;generalize T.XW ⟨kd,p,n,la,nm,ss⟩=wv at *
 have GD:=Zh (Z9 w (.cells (Qa kd p n la (str nm) sa ss.length sc ba bl bc) 32));have E3:=World.size_alloc w (.cells (Qa kd p n la (str nm) sa ss.length sc ba bl bc) 32);have SZ:Hid (Below w w (w.alloc (.cells (Qa kd p n la (str nm) sa ss.length sc ba bl bc) 32))):=Z' _ _;go_enter func72,ntmps72;go_wp2_with fail
 (with_reducible refine CW.o.mono ?_)
 rintro e w1 ⟨rfl,YZ⟩;have VN:Hid (Below w w w1):=SZ.o.trans (YZ.mono Zo);have RR:w.heap.size<w1.heap.size:=by have:=YZ.size;omega
 have V5:=fun(j:Nat)=>(YZ.cell (p:=⟨w,j,none⟩) T_).trans (cell_of GD.o j)
 have x0:w1.cell? ⟨w,0,none⟩=some (.int .i64 kd):=V5 0;have x1:w1.cell? ⟨w,1,none⟩=some (.int .i64 p):=V5 1;have x2:w1.cell? ⟨w,2,none⟩=some (.int .i64 n):=V5 2;have x3:w1.cell? ⟨w,3,none⟩=some (.int .i64 la):=V5 3;have x4:w1.cell? ⟨w,4,none⟩=some (.string (str nm)):=V5 4;have x5:w1.cell? ⟨w,5,none⟩=some (.slice sa ss.length sc):=V5 5;have x6:w1.cell? ⟨w,6,none⟩=some (.slice ba bl bc):=V5 6;clear YZ V5;go_wp2
 go_ret2
 exact Vj HF (Row.nil _ _) (HR.o.below VN.o) (Fr.Z6 _ VN.o)
theorem qW(b:Nat)(T:ZO)(o:Op)(sa ba:Option Addr)(sc bl bc:Nat)(w:World)(hR:ZM w b T)(Vl:T.Small)(hT:Xu w)(UT:o.name.length<9223372036854775807)(SV:∀x∈T.Zz,x.name.length<9223372036854775807)
  (ZW:XM w (.slice sa o.ZK.length sc) o.ZK.length (YN o.ZK)) (hw:T.XW o=0) (We:o8 T o) (hk:o.kind=3) :
  Calls prog 72 (Qi (some ⟨b,0,none⟩) (Jq o sa o.ZK.length sc ba bl bc)) w (UU b T o w):=by
 have cw:=V9 b T o sa ba sc bl bc (w.alloc (.cells (Jq o sa o.ZK.length sc ba bl bc) 32)) (hR.below (Z' _ _)) (Utf8Tabs_below hT (Z' _ _)) UT SV (ZW.below (Z' _ _));have hb:=hR.lt;have P_:=Zh ZW;have HR:=Zh hR;have LY:=Zh Vl;have HF:Hid (T.WG o=(T.leave o.peer,0)):=by show _=_;unfold ZO.WG ZO.turns;rw[Z3 (by rw[hw];simp)];simp[hk]
 rw[hw]at cw;have CW:=Zh cw;have Px:=Zh We;obtain⟨kd,p,n,la,nm,ss⟩:=o;dsimp only at *
 subst hk;have C:=Zh (fun(w1:World) (h:ZM w1 b T)=>vC b T p w1 h Vl We.peer (We.leave rfl));clear hR Vl hT UT SV ZW cw hw We;have GD:=Zh (Z9 w (.cells (Qa 3 p n la (str nm) sa ss.length sc ba bl bc) 32));have E3:=World.size_alloc w (.cells (Qa 3 p n la (str nm) sa ss.length sc ba bl bc) 32);have SZ:Hid (Below w w (w.alloc (.cells (Qa 3 p n la (str nm) sa ss.length sc ba bl bc) 32))):=Z' _ _;go_enter func72,ntmps72;go_wp2_with fail
 (with_reducible refine CW.o.mono ?_)
 rintro e w1 ⟨rfl,YZ⟩;have VN:Hid (Below w w w1):=SZ.o.trans (YZ.mono Zo);have RR:w.heap.size<w1.heap.size:=by have:=YZ.size;omega
 have V5:=fun(j:Nat)=>(YZ.cell (p:=⟨w,j,none⟩) T_).trans (cell_of GD.o j)
 have x0:w1.cell? ⟨w,0,none⟩=some (.int .i64 3):=V5 0;have x1:w1.cell? ⟨w,1,none⟩=some (.int .i64 p):=V5 1;have x2:w1.cell? ⟨w,2,none⟩=some (.int .i64 n):=V5 2;have x3:w1.cell? ⟨w,3,none⟩=some (.int .i64 la):=V5 3;have x4:w1.cell? ⟨w,4,none⟩=some (.string (str nm)):=V5 4;have x5:w1.cell? ⟨w,5,none⟩=some (.slice sa ss.length sc):=V5 5;have x6:w1.cell? ⟨w,6,none⟩=some (.slice ba bl bc):=V5 6;clear YZ V5;go_wp2_with (go_at_call 97;(with_reducible refine(C.o w1 (HR.o.below VN.o)).mono ?_);rintro e w2 ⟨⟨tv,rfl,SX⟩,UY,Wm⟩)
 go_ret2
 exact Vj HF SX UY ((Fr.Z6 _ VN.o).trans (Wm.mono Zo (fun _ _ h=>h)))
theorem Ey(b:Nat)(T:ZO)(o:Op)(sa ba:Option Addr)(sc bl bc:Nat)(w:World)(hR:ZM w b T)(Vl:T.Small)(hT:Xu w)(UT:o.name.length<9223372036854775807)(SV:∀x∈T.Zz,x.name.length<9223372036854775807)
  (ZW:XM w (.slice sa o.ZK.length sc) o.ZK.length (YN o.ZK)) (hw:T.XW o=0) (We:o8 T o) (hk:o.kind=5) :
  Calls prog 72 (Qi (some ⟨b,0,none⟩) (Jq o sa o.ZK.length sc ba bl bc)) w (UU b T o w):=by
 have cw:=V9 b T o sa ba sc bl bc (w.alloc (.cells (Jq o sa o.ZK.length sc ba bl bc) 32)) (hR.below (Z' _ _)) (Utf8Tabs_below hT (Z' _ _)) UT SV (ZW.below (Z' _ _));have hb:=hR.lt;have P_:=Zh ZW;have HR:=Zh hR;have LY:=Zh Vl;have HF:Hid (T.WG o=(T.Yo o.source,0)):=by show _=_;unfold ZO.WG ZO.turns;rw[Z3 (by rw[hw];simp)];simp[hk]
 rw[hw]at cw;have CW:=Zh cw;have Px:=Zh We;obtain⟨kd,p,n,la,nm,ss⟩:=o;dsimp only at *
 subst hk;have C:=Zh (fun(w1:World) (h:ZM w1 b T)=>Ps b T n w1 h Vl (We.src Zi));clear hR Vl hT UT SV ZW cw hw We;have GD:=Zh (Z9 w (.cells (Qa 5 p n la (str nm) sa ss.length sc ba bl bc) 32));have E3:=World.size_alloc w (.cells (Qa 5 p n la (str nm) sa ss.length sc ba bl bc) 32);have SZ:Hid (Below w w (w.alloc (.cells (Qa 5 p n la (str nm) sa ss.length sc ba bl bc) 32))):=Z' _ _;go_enter func72,ntmps72;go_wp2_with fail
 (with_reducible refine CW.o.mono ?_)
 rintro e w1 ⟨rfl,YZ⟩;have VN:Hid (Below w w w1):=SZ.o.trans (YZ.mono Zo);have RR:w.heap.size<w1.heap.size:=by have:=YZ.size;omega
 have V5:=fun(j:Nat)=>(YZ.cell (p:=⟨w,j,none⟩) T_).trans (cell_of GD.o j)
 have x0:w1.cell? ⟨w,0,none⟩=some (.int .i64 5):=V5 0;have x1:w1.cell? ⟨w,1,none⟩=some (.int .i64 p):=V5 1;have x2:w1.cell? ⟨w,2,none⟩=some (.int .i64 n):=V5 2;have x3:w1.cell? ⟨w,3,none⟩=some (.int .i64 la):=V5 3;have x4:w1.cell? ⟨w,4,none⟩=some (.string (str nm)):=V5 4;have x5:w1.cell? ⟨w,5,none⟩=some (.slice sa ss.length sc):=V5 5;have x6:w1.cell? ⟨w,6,none⟩=some (.slice ba bl bc):=V5 6;clear YZ V5;go_wp2_with (go_at_call 98;(with_reducible refine(C.o w1 (HR.o.below VN.o)).mono ?_);rintro e w2 ⟨⟨tv,rfl,SX⟩,UY,Wm⟩)
 go_ret2
 exact Vj HF SX UY ((Fr.Z6 _ VN.o).trans (Wm.mono Zo (fun _ _ h=>h)))
theorem nr(b:Nat)(T:ZO)(o:Op)(sa ba:Option Addr)(sc bl bc:Nat)(w:World)(hR:ZM w b T)(Vl:T.Small)(hT:Xu w)(UT:o.name.length<9223372036854775807)(SV:∀x∈T.Zz,x.name.length<9223372036854775807)
  (ZW:XM w (.slice sa o.ZK.length sc) o.ZK.length (YN o.ZK)) (hw:T.XW o=0) (We:o8 T o) (hk:o.kind=8) :
  Calls prog 72 (Qi (some ⟨b,0,none⟩) (Jq o sa o.ZK.length sc ba bl bc)) w (UU b T o w):=by
 have cw:=V9 b T o sa ba sc bl bc (w.alloc (.cells (Jq o sa o.ZK.length sc ba bl bc) 32)) (hR.below (Z' _ _)) (Utf8Tabs_below hT (Z' _ _)) UT SV (ZW.below (Z' _ _));have hb:=hR.lt;have P_:=Zh ZW;have HR:=Zh hR;have LY:=Zh Vl;have HF:Hid (T.WG o=(T.mute o.source true,0)):=by show _=_;unfold ZO.WG ZO.turns;rw[Z3 (by rw[hw];simp)];simp[hk]
 rw[hw]at cw;have CW:=Zh cw;have Px:=Zh We;obtain⟨kd,p,n,la,nm,ss⟩:=o;dsimp only at *
 subst hk;have C:=Zh (fun(w1:World) (h:ZM w1 b T)=>nv b T n w1 h Vl (We.src Zi));clear hR Vl hT UT SV ZW cw hw We;have GD:=Zh (Z9 w (.cells (Qa 8 p n la (str nm) sa ss.length sc ba bl bc) 32));have E3:=World.size_alloc w (.cells (Qa 8 p n la (str nm) sa ss.length sc ba bl bc) 32);have SZ:Hid (Below w w (w.alloc (.cells (Qa 8 p n la (str nm) sa ss.length sc ba bl bc) 32))):=Z' _ _;go_enter func72,ntmps72;go_wp2_with fail
 (with_reducible refine CW.o.mono ?_)
 rintro e w1 ⟨rfl,YZ⟩;have VN:Hid (Below w w w1):=SZ.o.trans (YZ.mono Zo);have RR:w.heap.size<w1.heap.size:=by have:=YZ.size;omega
 have V5:=fun(j:Nat)=>(YZ.cell (p:=⟨w,j,none⟩) T_).trans (cell_of GD.o j)
 have x0:w1.cell? ⟨w,0,none⟩=some (.int .i64 8):=V5 0;exact Yx48
theorem vv(b:Nat)(T:ZO)(o:Op)(sa ba:Option Addr)(sc bl bc:Nat)(w:World)(hR:ZM w b T)(Vl:T.Small)(hT:Xu w)(UT:o.name.length<9223372036854775807)(SV:∀x∈T.Zz,x.name.length<9223372036854775807)
  (ZW:XM w (.slice sa o.ZK.length sc) o.ZK.length (YN o.ZK)) (hw:T.XW o=0) (We:o8 T o) (hk:o.kind=9) :
  Calls prog 72 (Qi (some ⟨b,0,none⟩) (Jq o sa o.ZK.length sc ba bl bc)) w (UU b T o w):=by
 have cw:=V9 b T o sa ba sc bl bc (w.alloc (.cells (Jq o sa o.ZK.length sc ba bl bc) 32)) (hR.below (Z' _ _)) (Utf8Tabs_below hT (Z' _ _)) UT SV (ZW.below (Z' _ _));have hb:=hR.lt;have P_:=Zh ZW;have HR:=Zh hR;have LY:=Zh Vl;have HF:Hid (T.WG o=(T.mute o.source false,0)):=by show _=_;unfold ZO.WG ZO.turns;rw[Z3 (by rw[hw];simp)];simp[hk]
 rw[hw]at cw;have CW:=Zh cw;have Px:=Zh We;obtain⟨kd,p,n,la,nm,ss⟩:=o;dsimp only at *
 subst hk;have C:=Zh (fun(w1:World) (h:ZM w1 b T)=>rh b T n w1 h Vl (We.src Zi) (We.bp rfl));clear hR Vl hT UT SV ZW cw hw We;have GD:=Zh (Z9 w (.cells (Qa 9 p n la (str nm) sa ss.length sc ba bl bc) 32));have E3:=World.size_alloc w (.cells (Qa 9 p n la (str nm) sa ss.length sc ba bl bc) 32);have SZ:Hid (Below w w (w.alloc (.cells (Qa 9 p n la (str nm) sa ss.length sc ba bl bc) 32))):=Z' _ _;go_enter func72,ntmps72;go_wp2_with fail
 (with_reducible refine CW.o.mono ?_)
 rintro e w1 ⟨rfl,YZ⟩;have VN:Hid (Below w w w1):=SZ.o.trans (YZ.mono Zo);have RR:w.heap.size<w1.heap.size:=by have:=YZ.size;omega
 have V5:=fun(j:Nat)=>(YZ.cell (p:=⟨w,j,none⟩) T_).trans (cell_of GD.o j)
 have x0:w1.cell? ⟨w,0,none⟩=some (.int .i64 9):=V5 0;exact Yx48
theorem qX(b:Nat)(T:ZO)(o:Op)(sa ba:Option Addr)(sc bl bc:Nat)(w:World)(hR:ZM w b T)(Vl:T.Small)(hT:Xu w)(UT:o.name.length<9223372036854775807)(SV:∀x∈T.Zz,x.name.length<9223372036854775807)
  (ZW:XM w (.slice sa o.ZK.length sc) o.ZK.length (YN o.ZK)) (hw:T.XW o=0) (We:o8 T o) (hk:o.kind=10) :
  Calls prog 72 (Qi (some ⟨b,0,none⟩) (Jq o sa o.ZK.length sc ba bl bc)) w (UU b T o w):=by
 have cw:=V9 b T o sa ba sc bl bc (w.alloc (.cells (Jq o sa o.ZK.length sc ba bl bc) 32)) (hR.below (Z' _ _)) (Utf8Tabs_below hT (Z' _ _)) UT SV (ZW.below (Z' _ _));have hb:=hR.lt;have P_:=Zh ZW;have HR:=Zh hR;have LY:=Zh Vl;have HF:Hid (T.WG o=(T.change o 4,0)):=by show _=_;unfold ZO.WG ZO.turns;rw[Z3 (by rw[hw];simp)];simp[hk]
 rw[hw]at cw;have CW:=Zh cw;have Px:=Zh We;obtain⟨kd,p,n,la,nm,ss⟩:=o;dsimp only at *
 subst hk;have C:=Zh (fun(w1:World) (h:ZM w1 b T)=>AU b T ⟨10,p,n,la,nm,ss⟩ sa ba ss.length sc bl bc w1 h Vl (We.sub Zi) (We.src Zi) (We.change 4 (WO ⟨rfl,rfl⟩)));clear hR Vl hT UT SV ZW cw hw We;have GD:=Zh (Z9 w (.cells (Qa 10 p n la (str nm) sa ss.length sc ba bl bc) 32));have E3:=World.size_alloc w (.cells (Qa 10 p n la (str nm) sa ss.length sc ba bl bc) 32);have SZ:Hid (Below w w (w.alloc (.cells (Qa 10 p n la (str nm) sa ss.length sc ba bl bc) 32))):=Z' _ _;go_enter func72,ntmps72;go_wp2_with fail
 (with_reducible refine CW.o.mono ?_)
 rintro e w1 ⟨rfl,YZ⟩;have VN:Hid (Below w w w1):=SZ.o.trans (YZ.mono Zo);have RR:w.heap.size<w1.heap.size:=by have:=YZ.size;omega
 have V5:=fun(j:Nat)=>(YZ.cell (p:=⟨w,j,none⟩) T_).trans (cell_of GD.o j)
 have x0:w1.cell? ⟨w,0,none⟩=some (.int .i64 10):=V5 0;exact Yx30
theorem vr(b:Nat)(T:ZO)(o:Op)(sa ba:Option Addr)(sc bl bc:Nat)(w:World)(hR:ZM w b T)(Vl:T.Small)(hT:Xu w)(UT:o.name.length<9223372036854775807)(SV:∀x∈T.Zz,x.name.length<9223372036854775807)
  (ZW:XM w (.slice sa o.ZK.length sc) o.ZK.length (YN o.ZK)) (hw:T.XW o=0) (We:o8 T o) (hk:o.kind=11) :
  Calls prog 72 (Qi (some ⟨b,0,none⟩) (Jq o sa o.ZK.length sc ba bl bc)) w (UU b T o w):=by
 have cw:=V9 b T o sa ba sc bl bc (w.alloc (.cells (Jq o sa o.ZK.length sc ba bl bc) 32)) (hR.below (Z' _ _)) (Utf8Tabs_below hT (Z' _ _)) UT SV (ZW.below (Z' _ _));have hb:=hR.lt;have P_:=Zh ZW;have HR:=Zh hR;have LY:=Zh Vl;have HF:Hid (T.WG o=(T.change o 5,0)):=by show _=_;unfold ZO.WG ZO.turns;rw[Z3 (by rw[hw];simp)];simp[hk]
 rw[hw]at cw;have CW:=Zh cw;have Px:=Zh We;obtain⟨kd,p,n,la,nm,ss⟩:=o;dsimp only at *
 subst hk;have C:=Zh (fun(w1:World) (h:ZM w1 b T)=>Ea b T ⟨11,p,n,la,nm,ss⟩ sa ba ss.length sc bl bc w1 h Vl (We.sub Zi) (We.src Zi) (We.change 5 (WB (WO ⟨rfl,rfl⟩))));clear hR Vl hT UT SV ZW cw hw We;have GD:=Zh (Z9 w (.cells (Qa 11 p n la (str nm) sa ss.length sc ba bl bc) 32));have E3:=World.size_alloc w (.cells (Qa 11 p n la (str nm) sa ss.length sc ba bl bc) 32);have SZ:Hid (Below w w (w.alloc (.cells (Qa 11 p n la (str nm) sa ss.length sc ba bl bc) 32))):=Z' _ _;go_enter func72,ntmps72;go_wp2_with fail
 (with_reducible refine CW.o.mono ?_)
 rintro e w1 ⟨rfl,YZ⟩;have VN:Hid (Below w w w1):=SZ.o.trans (YZ.mono Zo);have RR:w.heap.size<w1.heap.size:=by have:=YZ.size;omega
 have V5:=fun(j:Nat)=>(YZ.cell (p:=⟨w,j,none⟩) T_).trans (cell_of GD.o j)
 have x0:w1.cell? ⟨w,0,none⟩=some (.int .i64 11):=V5 0;exact Yx30
theorem nu(b:Nat)(T:ZO)(o:Op)(sa ba:Option Addr)(sc bl bc:Nat)(w:World)(hR:ZM w b T)(Vl:T.Small)(hT:Xu w)(UT:o.name.length<9223372036854775807)(SV:∀x∈T.Zz,x.name.length<9223372036854775807)
  (ZW:XM w (.slice sa o.ZK.length sc) o.ZK.length (YN o.ZK)) (hw:T.XW o=0) (We:o8 T o) (hk:o.kind=12) :
  Calls prog 72 (Qi (some ⟨b,0,none⟩) (Jq o sa o.ZK.length sc ba bl bc)) w (UU b T o w):=by
 have cw:=V9 b T o sa ba sc bl bc (w.alloc (.cells (Jq o sa o.ZK.length sc ba bl bc) 32)) (hR.below (Z' _ _)) (Utf8Tabs_below hT (Z' _ _)) UT SV (ZW.below (Z' _ _));have hb:=hR.lt;have P_:=Zh ZW;have HR:=Zh hR;have LY:=Zh Vl;have HF:Hid (T.WG o=(T.change o 8,0)):=by show _=_;unfold ZO.WG ZO.turns;rw[Z3 (by rw[hw];simp)];simp[hk]
 rw[hw]at cw;have CW:=Zh cw;have Px:=Zh We;obtain⟨kd,p,n,la,nm,ss⟩:=o;dsimp only at *
 subst hk;have C:=Zh (fun(w1:World) (h:ZM w1 b T)=>xU b T ⟨12,p,n,la,nm,ss⟩ sa ba ss.length sc bl bc w1 h Vl (We.sub Zi) (We.src Zi) (We.change 8 (WB (WB ⟨rfl,rfl⟩))));clear hR Vl hT UT SV ZW cw hw We;have GD:=Zh (Z9 w (.cells (Qa 12 p n la (str nm) sa ss.length sc ba bl bc) 32));have E3:=World.size_alloc w (.cells (Qa 12 p n la (str nm) sa ss.length sc ba bl bc) 32);have SZ:Hid (Below w w (w.alloc (.cells (Qa 12 p n la (str nm) sa ss.length sc ba bl bc) 32))):=Z' _ _;go_enter func72,ntmps72;go_wp2_with fail
 (with_reducible refine CW.o.mono ?_)
 rintro e w1 ⟨rfl,YZ⟩;have VN:Hid (Below w w w1):=SZ.o.trans (YZ.mono Zo);have RR:w.heap.size<w1.heap.size:=by have:=YZ.size;omega
 have V5:=fun(j:Nat)=>(YZ.cell (p:=⟨w,j,none⟩) T_).trans (cell_of GD.o j)
 have x0:w1.cell? ⟨w,0,none⟩=some (.int .i64 12):=V5 0;exact Yx30
theorem Hn(b:Nat)(T:ZO)(o:Op)(sa ba:Option Addr)(sc bl bc:Nat)(w:World)(hR:ZM w b T)(Vl:T.Small)(hT:Xu w)(UT:o.name.length<9223372036854775807)(SV:∀x∈T.Zz,x.name.length<9223372036854775807)
  (ZW:XM w (.slice sa o.ZK.length sc) o.ZK.length (YN o.ZK)) (hw:T.XW o=0) (We:o8 T o) (hk:o.kind=7) :
  Calls prog 72 (Qi (some ⟨b,0,none⟩) (Jq o sa o.ZK.length sc ba bl bc)) w (UU b T o w):=by
 have cw:=V9 b T o sa ba sc bl bc (w.alloc (.cells (Jq o sa o.ZK.length sc ba bl bc) 32)) (hR.below (Z' _ _)) (Utf8Tabs_below hT (Z' _ _)) UT SV (ZW.below (Z' _ _));have hb:=hR.lt;have P_:=Zh ZW;have HR:=Zh hR;have LY:=Zh Vl;have HF:Hid (T.WG o=(([⟨2,o.peer,o.source,0,0⟩],T.WJ o.peer o.source),0)):=by show _=_;unfold ZO.WG ZO.turns;rw[Z3 (by rw[hw];simp)];simp[hk]
 rw[hw]at cw;have CW:=Zh cw;have Px:=Zh We;obtain⟨kd,p,n,la,nm,ss⟩:=o;dsimp only at *
 subst hk;have C:Hid (∀w1,ZM w1 b T→Calls prog 100 (Qu (some ⟨b,0,none⟩) p n) w1 fun e w'=>e = .returned (.agg (Qh 2 p n 0 0))∧ZM w' b (T.WJ p n)∧Fr w1 (· = b) w1 w'):=fun w1 h=>Lv b T p n w1 h Vl (We.sub Zi)
 clear hR Vl hT UT SV ZW cw hw We;have GD:=Zh (Z9 w (.cells (Qa 7 p n la (str nm) sa ss.length sc ba bl bc) 32));have E3:=World.size_alloc w (.cells (Qa 7 p n la (str nm) sa ss.length sc ba bl bc) 32);have SZ:Hid (Below w w (w.alloc (.cells (Qa 7 p n la (str nm) sa ss.length sc ba bl bc) 32))):=Z' _ _;go_enter func72,ntmps72;go_wp2_with fail
 (with_reducible refine CW.o.mono ?_)
 rintro e w1 ⟨rfl,YZ⟩;have VN:Hid (Below w w w1):=SZ.o.trans (YZ.mono Zo);have RR:w.heap.size<w1.heap.size:=by have:=YZ.size;omega
 have V5:=fun(j:Nat)=>(YZ.cell (p:=⟨w,j,none⟩) T_).trans (cell_of GD.o j)
 have x0:w1.cell? ⟨w,0,none⟩=some (.int .i64 7):=V5 0;have x1:w1.cell? ⟨w,1,none⟩=some (.int .i64 p):=V5 1;have x2:w1.cell? ⟨w,2,none⟩=some (.int .i64 n):=V5 2;have x3:w1.cell? ⟨w,3,none⟩=some (.int .i64 la):=V5 3;have x4:w1.cell? ⟨w,4,none⟩=some (.string (str nm)):=V5 4;have x5:w1.cell? ⟨w,5,none⟩=some (.slice sa ss.length sc):=V5 5;have x6:w1.cell? ⟨w,6,none⟩=some (.slice ba bl bc):=V5 6;clear YZ V5;go_wp2_with (go_at_call 100;(with_reducible refine(C.o w1 (HR.o.below VN.o)).mono ?_);rintro e w2 ⟨rfl,UY,Wm⟩;have Vm:=Zh UY;have T8:=Zh Wm;have qq:=Wm.size;clear UY Wm)
 go_ret2
 exact Vj HF (Yw _ _ 1 _ ([⟨2,p,n,0,0⟩].flatMap Z7) Zd rfl) (Vm.o.alloc _) (((Fr.Z6 _ VN.o).trans (T8.o.mono Zo (fun _ _ h=>h))).alloc Zo _)
end Go.Proofs.Rm
namespace Go.Proofs.Heap
open Go Go.RowKit
section
variable {P:Program}
theorem nz{w:World}(t ty:TypeId)(base:Nat){e:TypeId}{size bytes:Nat}(E:Elem P t e size bytes)(v:Value)(n:Nat)(xs:List Value)(YG:w.ownsRow base e size v n xs)
  (vx:Value) (m:Nat) (news:List Value) (ZW:XM w vx m news) (hl:news.length=m*size) (h1:∀u∈news,u.oneCell'=true)
  (Ur:(n+m)*bytes≤140737488355328) (kZ:n+m≤9223372036854775807) (R7:base≤w.heap.size) :
  ∃v' w',(Builtin.append_ #[t,t] ty #[v,vx]).run P w = .ok v' w'∧w'.ownsRow base e size v' (n+m) (xs++news)∧w.grownBy w' v.ownBlock:=by
 obtain⟨z,UB,iY⟩:=E.info;obtain⟨i,hi,hz,Sc,lF⟩:=info_parts UB;obtain⟨ad,cap,hv,_,_,h0,hr⟩:=ZW;subst hv;have uw:n+m≤maxLen:=by unfold maxLen;omega
 cases ad with
 | none=>
  exact bR
 | some ad=>
  obtain⟨v',w',Be,h2,h3,_⟩:=run_append_own w base t ty e i z size bytes E.ht hi hz Sc lF iY E.pos v n xs YG ad m cap news hl (by
   intro j u hu;rcases hr with hr|⟨b,off,Sn,OT,hc⟩
   ·subst hr;simp at hu
   ·cases Sn;have hj:j<news.length:=(List.getElem?_eq_some_iff.1 hu).1;have:=hc j hj;have MT:(⟨b,off,none⟩:Addr).add j=⟨b,off+j,none⟩:=by unfold Addr.add;split <;> simp_all
    rw[MT,this]
    exact hu) h1 uw Ur R7
  exact⟨v',w',Be,h2,h3⟩
theorem Rf{ops:Array Oper}{o:Oper}{a:Act}{w:World}{K:Act→World→Prop}{Q:Exit→Act→World→Prop}{E':Prop}(LH:o.guard=none)(s x:Operand)(t:TypeId)
  (ho:o.op = .call {callee:= .builtin .append,args:=#[s,x],argTypes:=#[t,t]})
  (base:Nat) {e:TypeId} {size bytes:Nat} (E:Elem P t e size bytes)
  (v:Value) (n:Nat) (xs:List Value) (hs:a.eval s=v) (YG:w.ownsRow base e size v n xs)
  (vx:Value) (m:Nat) (news:List Value) (hx:a.eval x=vx) (ZW:XM w vx m news) (hl:news.length=m*size) (h1:∀u∈news,u.oneCell'=true)
  (Ur:(n+m)*bytes≤140737488355328) (kZ:n+m≤9223372036854775807) (R7:base≤w.heap.size)
  (h:∀v' w',Hid (w'.ownsRow base e size v' (n+m) (xs++news))→Hid (w.grownBy w' v.ownBlock)→K (a.put o.dst v') w') :
  if Region.wanted o (yielded ops a.tmps)=true then Oper.wp P o a w K Q else E':=by
 have hw:Region.wanted o (yielded ops a.tmps)=true:=by simp[Region.wanted,LH]
 rw[ZU hw];obtain⟨v',w',Be,h2,h3⟩:=nz (P:=P) t o.type base E v n xs YG vx m news ZW hl h1 Ur kZ R7;unfold Oper.wp;simp[execOp,ho,resolve,invoke,builtin,hs,hx,Be,Result.andThen];exact h v' w' h2 h3
end
end Go.Proofs.Heap
namespace Go.Proofs.Rm
open Go.RowKit Go.Proofs.Heap Go.Proofs.Mem
open Go.Proofs.ND (may key Xu)
theorem Ta(w:World)(e:TypeId)(n:Nat)(xs:List Value)(hn:n≤maxLen)(v:Value)(hv:v = .slice (some ⟨w,0,none⟩) n n):Row (w.alloc (.cells xs.toArray e)) e v n xs:=by
 subst hv;exact K5 w e n xs hn
theorem XB{w w':World}(hg:w.grownBy w' (Value.slice none 0 0).ownBlock):Below w w w':=(YI _ _).grown hg (Zw _) (fun k hk=>by cases hk)
theorem np(b:Nat)(T:ZO)(o:Op)(sa ba:Option Addr)(sc bl bc:Nat)(w:World)(hR:ZM w b T)(Vl:T.Small)(hT:Xu w)(UT:o.name.length<9223372036854775807)(SV:∀x∈T.Zz,x.name.length<9223372036854775807)
  (ZW:XM w (.slice sa o.ZK.length sc) o.ZK.length (YN o.ZK)) (hw:T.XW o=0) (We:o8 T o) (hk:o.kind=2) :
  Calls prog 72 (Qi (some ⟨b,0,none⟩) (Jq o sa o.ZK.length sc ba bl bc)) w (UU b T o w):=by
 have cw:=V9 b T o sa ba sc bl bc (w.alloc (.cells (Jq o sa o.ZK.length sc ba bl bc) 32)) (hR.below (Z' _ _)) (Utf8Tabs_below hT (Z' _ _)) UT SV (ZW.below (Z' _ _));have hb:=hR.lt;have P_:=Zh ZW;have HR:=Zh hR;have LY:=Zh Vl;have HF:Hid (T.WG o=(([],T.Mq ⟨o.peer,o.name⟩),0)):=by show _=_;unfold ZO.WG ZO.turns;rw[Z3 (by rw[hw];simp)];simp[hk]
 rw[hw]at cw;have CW:=Zh cw;have Px:=Zh We;obtain⟨kd,p,n,la,nm,ss⟩:=o;dsimp only at *
 subst hk;have yG:=Vl.Zz;unfold small at yG;obtain⟨pv,sv,uv,Yn,XF⟩:=hR.Vv;have U1:=XF.Zz;obtain⟨a,cap,rfl,OX,-,-,-⟩:=id U1;have Hs:Hid (∀w',Below w w w'→Row w' 103 (.slice a T.Zz.length cap) T.Zz.length (T.Zz.flatMap Yy)):=fun w' h=>U1.below h
 have Am:=Zh (O_ T.Zz);have HC:Hid (∀w',Below w w w'→w'.cell? ⟨b,0,none⟩=some (.slice a T.Zz.length cap)∧w'.frozen? ⟨b,0,none⟩=false):=fun w' h=>⟨(h.cell (p:=⟨b,0,none⟩) hb).trans (cell_of Yn 0),(h.frozen (p:=⟨b,0,none⟩) hb).trans (hR.YB 0)⟩
 clear U1 Yn XF;clear hR Vl hT UT SV ZW cw hw We;have GD:=Zh (Z9 w (.cells (Qa 2 p n la (str nm) sa ss.length sc ba bl bc) 32));have E3:=World.size_alloc w (.cells (Qa 2 p n la (str nm) sa ss.length sc ba bl bc) 32);have SZ:Hid (Below w w (w.alloc (.cells (Qa 2 p n la (str nm) sa ss.length sc ba bl bc) 32))):=Z' _ _;go_enter func72,ntmps72;go_wp2_with fail
 (with_reducible refine CW.o.mono ?_)
 rintro e w1 ⟨rfl,YZ⟩;have VN:Hid (Below w w w1):=SZ.o.trans (YZ.mono Zo);have RR:w.heap.size<w1.heap.size:=by have:=YZ.size;omega
 have V5:=fun(j:Nat)=>(YZ.cell (p:=⟨w,j,none⟩) T_).trans (cell_of GD.o j)
 have x0:w1.cell? ⟨w,0,none⟩=some (.int .i64 2):=V5 0;have x1:w1.cell? ⟨w,1,none⟩=some (.int .i64 p):=V5 1;have x2:w1.cell? ⟨w,2,none⟩=some (.int .i64 n):=V5 2;have x3:w1.cell? ⟨w,3,none⟩=some (.int .i64 la):=V5 3;have x4:w1.cell? ⟨w,4,none⟩=some (.string (str nm)):=V5 4;have x5:w1.cell? ⟨w,5,none⟩=some (.slice sa ss.length sc):=V5 5;have x6:w1.cell? ⟨w,6,none⟩=some (.slice ba bl bc):=V5 6;clear YZ V5;have ZB:Hid (∀w',Below w1 w1 w'→w'.cell? ⟨b,0,none⟩=some (.slice a T.Zz.length cap)∧w'.frozen? ⟨b,0,none⟩=false∧w'.cell? ⟨w,1,none⟩=some (.int .i64 p)∧w'.cell? ⟨w,4,none⟩=some (.string (str nm))):=fun w' h=>⟨(HC.o _ (VN.o.trans (h.mono Zo))).1,(HC.o _ (VN.o.trans (h.mono Zo))).2,(h.cell (p:=⟨w,1,none⟩) RR).trans x1,(h.cell (p:=⟨w,4,none⟩) RR).trans x4⟩
 have SR:Hid (∀w',Below w1 w1 w'→Row w' 103 (.slice a T.Zz.length cap) T.Zz.length (T.Zz.flatMap Yy)):=fun w' h=>Hs.o _ (VN.o.trans (h.mono Zo))
 have eT:Hid (∀w',Below w1 w1 w'→ZM w' b T∧Fr w (· = b) w w'):=fun w' h=>⟨HR.o.below (VN.o.trans (h.mono Zo)),Fr.Z6 _ (VN.o.trans (h.mono Zo))⟩
 have Hv:Hid (∀w',Fr w1 (· = b) w1 w'→w'.cell? ⟨w,1,none⟩=some (.int .i64 p)∧w'.cell? ⟨w,4,none⟩=some (.string (str nm))∧Fr w1 (· = b) w1 w'):=fun w' h=>⟨(h.cell (p:=⟨w,1,none⟩) RR T_).trans x1,(h.cell (p:=⟨w,4,none⟩) RR T_).trans x4,h⟩
 have Nw:Below w1 w1 w1:=YI _ _;obtain⟨k0,k1,-,-⟩:=ZB.o _ Nw;have hbw1:b<w1.heap.size:=by omega
 have ne1:=World.new_ne w1 ⟨b,0,none⟩ k0;clear Hs HC;go_upto_region 6 with fail
 refine R5 ?_;refine wp_region_held_drew (S:=(fun w'=>w'.cell? ⟨w,1,none⟩=some (.int .i64 p)∧w'.cell? ⟨w,4,none⟩=some (.string (str nm))∧Fr w1 (· = b) w1 w')) X_ ?_ (fun _=>?_)
 ·exact MM
 refine YA 0 (h:=YA 1 (h:=YA 2 (h:=YA 3 (h:=YA 6 (h:=YA 7 (h:=YA 8 (h:=YA 9 (h:=YA 10 (h:=?_)))))))));refine wpAnyH_ready (rs:=[4,11]) X_ Zi ?_;refine AllReadyH.cons (i:=4) rfl (fun K hK=>?_) ?_
 ·go_simp;refine hK.out _ _ ?_ (fun _=>?_)
  ·exact MM
  clear hK K;try simp only[Z_.pt]
  refine wpAnyH_ready (rs:=[5,11]) X_ Zi ?_;refine AllReadyH.cons (i:=5) rfl (fun K hK=>?_) ?_
  ·(first|(go_split_ands;refine Ze Zr (.const (.slice none 0 0)) (.tmp 23) 47 Zr w1 TM (.slice none 0 0) 0 [] Zr (TV _ _ _ _) (.slice a T.Zz.length cap) T.Zz.length (T.Zz.flatMap Yy) Zr ?_ Am.o (Pb _) Zo Zo ?_ ?_;(exact SR.o _ V8);(exact Below.size V8);intro v1 w2 T9 Ot;have Uj:=XB Ot.o;have Yp:Below w1 w1 w2:=Heap.Below.call V8 (Zw _) Uj;obtain⟨k2,k3,k4,k5⟩:=ZB.o _ Yp)|(go_split_ands;refine Ze Zr (.tmp 24) (.tmp 30) 47 Zr w1 TM v1 (0+T.Zz.length) ([]++T.Zz.flatMap Yy) Zr ?_ _ 1 (Q5 p (str nm)) Zr ?_ Zr (KQ ⟨p,nm⟩) Zo Zo ?_ ?_;(repeat(first|with_reducible exact T9.o|with_reducible refine Xb ?_|with_reducible refine World.ownsRow.alloc ?_ _));(repeat(first|((with_reducible refine Ta _ _ 1 (Q5 p (str nm)) Zd _ ?_);rfl)|with_reducible refine Row.drew ?_|with_reducible refine Row.below ?_ Uj));(exact Below.size V8);intro v2 w3 Po JY;have Wf:Below w1 w1 w3:=Below.grown V8 JY.o (Below.size V8) (YL T9.o);obtain⟨k6,k7,k8,k9⟩:=ZB.o _ Wf;obtain⟨va,vc,hv⟩:=Wu Po.o;subst hv))
   refine hK.out _ _ ?_ (fun _=>?_)
   ·exact MM
   clear hK K;try simp only[Z_.pt]
   refine wpAnyH_ready (rs:=[11]) X_ Zi ?_;refine AllReadyH.cons (i:=11) rfl (fun K hK=>?_) ?_
   ·go_simp;exact Yx6
   exact AllReadyH.nil
  refine AllReadyH.cons (i:=11) rfl (fun K hK=>?_) ?_
  ·exact Yx27
  exact AllReadyH.nil
 refine AllReadyH.cons (i:=11) rfl (fun K hK=>?_) ?_
 ·go_simp;refine hK.out _ _ ?_ (fun _=>?_)
  ·exact MM
  clear hK K;try simp only[Z_.pt]
  refine wpAnyH_ready (rs:=[4]) X_ Zi ?_;refine AllReadyH.cons (i:=4) rfl (fun K hK=>?_) ?_
  ·exact Yx27
  exact AllReadyH.nil
 exact AllReadyH.nil
theorem zl(b:Nat)(T:ZO)(o:Op)(sa ba:Option Addr)(sc bl bc:Nat)(w:World)(hR:ZM w b T)(Vl:T.Small)(hT:Xu w)(UT:o.name.length<9223372036854775807)(SV:∀x∈T.Zz,x.name.length<9223372036854775807)
  (ZW:XM w (.slice sa o.ZK.length sc) o.ZK.length (YN o.ZK)) (hw:T.XW o=0) (We:o8 T o) (hk:o.kind=4) :
  Calls prog 72 (Qi (some ⟨b,0,none⟩) (Jq o sa o.ZK.length sc ba bl bc)) w (UU b T o w):=by
 have cw:=V9 b T o sa ba sc bl bc (w.alloc (.cells (Jq o sa o.ZK.length sc ba bl bc) 32)) (hR.below (Z' _ _)) (Utf8Tabs_below hT (Z' _ _)) UT SV (ZW.below (Z' _ _));have hb:=hR.lt;have P_:=Zh ZW;have HR:=Zh hR;have LY:=Zh Vl;have HF:Hid (T.WG o=(([],T.IW ⟨o.source,o.peer,o.ZK,false⟩),0)):=by show _=_;unfold ZO.WG ZO.turns;rw[Z3 (by rw[hw];simp)];simp[hk]
 rw[hw]at cw;have CW:=Zh cw;have Px:=Zh We;obtain⟨kd,p,n,la,nm,ss⟩:=o;dsimp only at *
 subst hk;have yG:=Vl.Yj;unfold small at yG;have L9:=We.ssl rfl;obtain⟨pv,sv,uv,Yn,XF⟩:=hR.Vv;obtain⟨P,Tj,U1,Bd⟩:=XF.Yj;have hPl:P.length≤100000:=by rw[←Tj,Tx]at yG;exact yG
 have Ao:Hid (∀u∈P.flatMap Zg,u.oneCell'=true):=Ph fun x hx=>by obtain⟨a,c,h,-,-⟩:=Bd x hx;exact⟨a,_,c,h⟩
 obtain⟨a,cap,rfl,OX,-,-,-⟩:=id U1;have Hs:Hid (∀w',Below w w w'→Row w' 108 (.slice a P.length cap) P.length (P.flatMap Zg)∧(∀x∈P,Row w' 66 x.2 x.1.ss.length (YN x.1.ss))∧XM w' (.slice sa ss.length sc) ss.length (YN ss)):=fun w' h=>⟨U1.below h,fun x hx=>(Bd x hx).below h,ZW.below h⟩
 have Am:=Zh (SL P);have eI:=Zh Tj;have Ht:Hid ((YN ss).length=ss.length*1):=by show _=_;rw[VU,Nat.mul_one]
 have HC:Hid (∀w',Below w w w'→w'.cell? ⟨b,1,none⟩=some (.slice a P.length cap)∧w'.frozen? ⟨b,1,none⟩=false):=fun w' h=>⟨(h.cell (p:=⟨b,1,none⟩) hb).trans (cell_of Yn 1),(h.frozen (p:=⟨b,1,none⟩) hb).trans (hR.YB 1)⟩
 clear U1 Bd Yn XF Tj yG;clear hR Vl hT UT SV ZW cw hw We;have GD:=Zh (Z9 w (.cells (Qa 4 p n la (str nm) sa ss.length sc ba bl bc) 32));have E3:=World.size_alloc w (.cells (Qa 4 p n la (str nm) sa ss.length sc ba bl bc) 32);have SZ:Hid (Below w w (w.alloc (.cells (Qa 4 p n la (str nm) sa ss.length sc ba bl bc) 32))):=Z' _ _;go_enter func72,ntmps72;go_wp2_with fail
 (with_reducible refine CW.o.mono ?_)
 rintro e w1 ⟨rfl,YZ⟩;have VN:Hid (Below w w w1):=SZ.o.trans (YZ.mono Zo);have RR:w.heap.size<w1.heap.size:=by have:=YZ.size;omega
 have V5:=fun(j:Nat)=>(YZ.cell (p:=⟨w,j,none⟩) T_).trans (cell_of GD.o j)
 have x0:w1.cell? ⟨w,0,none⟩=some (.int .i64 4):=V5 0;have x1:w1.cell? ⟨w,1,none⟩=some (.int .i64 p):=V5 1;have x2:w1.cell? ⟨w,2,none⟩=some (.int .i64 n):=V5 2;have x3:w1.cell? ⟨w,3,none⟩=some (.int .i64 la):=V5 3;have x4:w1.cell? ⟨w,4,none⟩=some (.string (str nm)):=V5 4;have x5:w1.cell? ⟨w,5,none⟩=some (.slice sa ss.length sc):=V5 5;have x6:w1.cell? ⟨w,6,none⟩=some (.slice ba bl bc):=V5 6;clear YZ V5;have ZB:Hid (∀w',Below w1 w1 w'→w'.cell? ⟨b,1,none⟩=some (.slice a P.length cap)∧w'.frozen? ⟨b,1,none⟩=false):=fun w' h=>HC.o _ (VN.o.trans (h.mono Zo))
 have SR:Hid (∀w',Below w1 w1 w'→Row w' 108 (.slice a P.length cap) P.length (P.flatMap Zg)∧(∀x∈P,Row w' 66 x.2 x.1.ss.length (YN x.1.ss))∧XM w' (.slice sa ss.length sc) ss.length (YN ss)):=fun w' h=>Hs.o _ (VN.o.trans (h.mono Zo))
 have eT:Hid (∀w',Below w1 w1 w'→ZM w' b T∧Fr w (· = b) w w'):=fun w' h=>⟨HR.o.below (VN.o.trans (h.mono Zo)),Fr.Z6 _ (VN.o.trans (h.mono Zo))⟩
 have Hv:Hid (∀w',Fr w1 (· = b) w1 w'→w'.cell? ⟨w,1,none⟩=some (.int .i64 p)∧w'.cell? ⟨w,2,none⟩=some (.int .i64 n)∧w'.cell? ⟨w,5,none⟩=some (.slice sa ss.length sc)∧Fr w1 (· = b) w1 w'):=fun w' h=>⟨(h.cell (p:=⟨w,1,none⟩) RR T_).trans x1,(h.cell (p:=⟨w,2,none⟩) RR T_).trans x2,(h.cell (p:=⟨w,5,none⟩) RR T_).trans x5,h⟩
 have Nw:Below w1 w1 w1:=YI _ _;obtain⟨k0,k1⟩:=ZB.o _ Nw;have hbw1:b<w1.heap.size:=by omega
 have ne1:=World.new_ne w1 ⟨b,1,none⟩ k0;clear Hs HC;go_upto_region 10 with fail
 refine R5 ?_;refine wp_region_held_drew (S:=(fun w'=>w'.cell? ⟨w,1,none⟩=some (.int .i64 p)∧w'.cell? ⟨w,2,none⟩=some (.int .i64 n)∧w'.cell? ⟨w,5,none⟩=some (.slice sa ss.length sc)∧Fr w1 (· = b) w1 w')) X_ ?_ (fun _=>?_)
 ·exact MM
 refine YA 0 (h:=YA 1 (h:=YA 2 (h:=YA 3 (h:=YA 6 (h:=YA 7 (h:=YA 8 (h:=YA 9 (h:=YA 10 (h:=YA 11 (h:=?_))))))))));refine wpAnyH_ready (rs:=[4]) X_ Zi ?_;refine AllReadyH.cons (i:=4) rfl (fun K hK=>?_) ?_
 ·go_simp;refine hK.out _ _ ?_ (fun _=>?_)
  ·exact MM
  clear hK K;try simp only[Z_.pt]
  refine wpAnyH_ready (rs:=[5]) X_ Zi ?_;refine AllReadyH.cons (i:=5) rfl (fun K hK=>?_) ?_
  ·(first|(go_split_ands;refine Ze Zr (.const (.slice none 0 0)) (.tmp 46) 48 Zr w1 UX (.slice none 0 0) 0 [] Zr (TV _ _ _ _) (.slice a P.length cap) P.length (P.flatMap Zg) Zr ?_ Am.o Ao.o Zo Zo ?_ ?_;(exact(SR.o _ V8).1);(exact Below.size V8);intro v1 w2 T9 Ot;have Uj:=XB Ot.o;have Yp:Below w1 w1 w2:=Heap.Below.call V8 (Zw _) Uj;have r2:Below w2 w2 w2:=YI _ _;have rs2:Below ws ws w2:=Heap.Below.call V8 (Zw _) Uj;obtain⟨k2,k3⟩:=ZB.o _ Yp)|(go_split_ands;refine Ze Zr (.const (.slice none 0 0)) (.tmp 46) 48 Zr w1 UX (.slice none 0 0) 0 [] Zr (TV _ _ _ _) (.slice a P.length cap) P.length (P.flatMap Zg) Zr ?_ Am.o Ao.o Zo Zo ?_ ?_;(exact(SR.o _ V8).1);(exact Below.size V8);intro v1 w2 T9 Ot;have Uj:=XB Ot.o;have Yp:Below w1 w1 w2:=Heap.Below.call V8 (Zw _) Uj;have r2:Below w2 w2 w2:=YI _ _;  obtain⟨k2,k3⟩:=ZB.o _ Yp)|(go_split_ands;refine Rf Zr (.const (.slice none 0 0)) (.tmp 53) 29 Zr w1 Vo (.slice none 0 0) 0 [] Zr (TV _ _ _ _) (.slice sa ss.length sc) ss.length (YN ss) Zr ?_ Ht.o (QY _) Zo Zo ?_ ?_;(exact(SR.o _ V8).2.2);(exact Below.size V8);intro vs ws BW jz;have sx:=XB jz.o;have FA:Below w1 w1 ws:=Heap.Below.call V8 (Zw _) sx;have rs:Below ws ws ws:=YI _ _;have r2s:Below w2 w2 ws:=Heap.Below.call V8 (Zw _) sx;obtain⟨k2,k3⟩:=ZB.o _ FA;have Mn:=Zh (Row.Z4 BW.o);obtain⟨Ad,Ae,hv⟩:=Wu BW.o;rw[PW]at hv Mn;rw[Hz]at Mn;subst hv)|(go_split_ands;refine Rf Zr (.const (.slice none 0 0)) (.tmp 53) 29 Zr w1 Vo (.slice none 0 0) 0 [] Zr (TV _ _ _ _) (.slice sa ss.length sc) ss.length (YN ss) Zr ?_ Ht.o (QY _) Zo Zo ?_ ?_;(exact(SR.o _ V8).2.2);(exact Below.size V8);intro vs ws BW jz;have sx:=XB jz.o;have FA:Below w1 w1 ws:=Heap.Below.call V8 (Zw _) sx;have rs:Below ws ws ws:=YI _ _;  obtain⟨k2,k3⟩:=ZB.o _ FA;have Mn:=Zh (Row.Z4 BW.o);obtain⟨Ad,Ae,hv⟩:=Wu BW.o;rw[PW]at hv Mn;rw[Hz]at Mn;subst hv)|(go_split_ands;refine Ze Zr (.tmp 47) (.tmp 56) 48 Zr w1 UX v1 (0+P.length) ([]++P.flatMap Zg) Zr ?_ _ 1 (Qp n p Ad ss.length Ae false) Zr ?_ Zr (La ⟨n,p,ss,false⟩ Ad ss.length Ae) Zo Zo ?_ ?_;(exact Zv T9.o V8);(repeat(first|((with_reducible refine Ta _ _ 1 (Qp n p Ad ss.length Ae false) Zd _ ?_);rfl)|with_reducible refine Row.drew ?_|with_reducible refine Row.below ?_ Uj));(exact Below.size V8);intro v2 w3 Po JY;have Wf:Below w1 w1 w3:=Below.grown V8 JY.o (Below.size V8) (YL T9.o);have aC:=Row.grown (Mn.o.below V8) (Zv T9.o V8) JY.o Zd;obtain⟨k6,k7⟩:=ZB.o _ Wf;obtain⟨va,vc,hv⟩:=Wu Po.o;subst hv))
   refine hK.out _ _ ?_ (fun _=>?_)
   ·exact MM
   clear hK K;try simp only[Z_.pt]
   refine wpAnyH_ready (rs:=[12]) X_ Zi ?_;refine AllReadyH.cons (i:=12) rfl (fun K hK=>?_) ?_
   ·(first|(go_split_ands;refine Ze Zr (.const (.slice none 0 0)) (.tmp 46) 48 Zr w1 UX (.slice none 0 0) 0 [] Zr (TV _ _ _ _) (.slice a P.length cap) P.length (P.flatMap Zg) Zr ?_ Am.o Ao.o Zo Zo ?_ ?_;(exact(SR.o _ V8).1);(exact Below.size V8);intro v1 w2 T9 Ot;have Uj:=XB Ot.o;have Yp:Below w1 w1 w2:=Heap.Below.call V8 (Zw _) Uj;have r2:Below w2 w2 w2:=YI _ _;have rs2:Below ws ws w2:=Heap.Below.call V8 (Zw _) Uj;obtain⟨k2,k3⟩:=ZB.o _ Yp)|(go_split_ands;refine Ze Zr (.const (.slice none 0 0)) (.tmp 46) 48 Zr w1 UX (.slice none 0 0) 0 [] Zr (TV _ _ _ _) (.slice a P.length cap) P.length (P.flatMap Zg) Zr ?_ Am.o Ao.o Zo Zo ?_ ?_;(exact(SR.o _ V8).1);(exact Below.size V8);intro v1 w2 T9 Ot;have Uj:=XB Ot.o;have Yp:Below w1 w1 w2:=Heap.Below.call V8 (Zw _) Uj;have r2:Below w2 w2 w2:=YI _ _;  obtain⟨k2,k3⟩:=ZB.o _ Yp)|(go_split_ands;refine Rf Zr (.const (.slice none 0 0)) (.tmp 53) 29 Zr w1 Vo (.slice none 0 0) 0 [] Zr (TV _ _ _ _) (.slice sa ss.length sc) ss.length (YN ss) Zr ?_ Ht.o (QY _) Zo Zo ?_ ?_;(exact(SR.o _ V8).2.2);(exact Below.size V8);intro vs ws BW jz;have sx:=XB jz.o;have FA:Below w1 w1 ws:=Heap.Below.call V8 (Zw _) sx;have rs:Below ws ws ws:=YI _ _;have r2s:Below w2 w2 ws:=Heap.Below.call V8 (Zw _) sx;obtain⟨k2,k3⟩:=ZB.o _ FA;have Mn:=Zh (Row.Z4 BW.o);obtain⟨Ad,Ae,hv⟩:=Wu BW.o;rw[PW]at hv Mn;rw[Hz]at Mn;subst hv)|(go_split_ands;refine Rf Zr (.const (.slice none 0 0)) (.tmp 53) 29 Zr w1 Vo (.slice none 0 0) 0 [] Zr (TV _ _ _ _) (.slice sa ss.length sc) ss.length (YN ss) Zr ?_ Ht.o (QY _) Zo Zo ?_ ?_;(exact(SR.o _ V8).2.2);(exact Below.size V8);intro vs ws BW jz;have sx:=XB jz.o;have FA:Below w1 w1 ws:=Heap.Below.call V8 (Zw _) sx;have rs:Below ws ws ws:=YI _ _;  obtain⟨k2,k3⟩:=ZB.o _ FA;have Mn:=Zh (Row.Z4 BW.o);obtain⟨Ad,Ae,hv⟩:=Wu BW.o;rw[PW]at hv Mn;rw[Hz]at Mn;subst hv)|(go_split_ands;refine Ze Zr (.tmp 47) (.tmp 56) 48 Zr w1 UX v1 (0+P.length) ([]++P.flatMap Zg) Zr ?_ _ 1 (Qp n p Ad ss.length Ae false) Zr ?_ Zr (La ⟨n,p,ss,false⟩ Ad ss.length Ae) Zo Zo ?_ ?_;(exact Zv T9.o V8);(repeat(first|((with_reducible refine Ta _ _ 1 (Qp n p Ad ss.length Ae false) Zd _ ?_);rfl)|with_reducible refine Row.drew ?_|with_reducible refine Row.below ?_ Uj));(exact Below.size V8);intro v2 w3 Po JY;have Wf:Below w1 w1 w3:=Below.grown V8 JY.o (Below.size V8) (YL T9.o);have aC:=Row.grown (Mn.o.below V8) (Zv T9.o V8) JY.o Zd;obtain⟨k6,k7⟩:=ZB.o _ Wf;obtain⟨va,vc,hv⟩:=Wu Po.o;subst hv))
    refine hK.out _ _ ?_ (fun _=>?_)
    ·exact MM
    clear hK K;try simp only[Z_.pt]
    refine YA 13 (h:=?_);refine wpAnyH_ready (rs:=[14]) X_ Zi ?_;refine AllReadyH.cons (i:=14) rfl (fun K hK=>?_) ?_
    ·go_simp;refine hK.out _ _ ?_ (fun _=>?_)
     ·exact MM
     clear hK K;try simp only[Z_.pt]
     refine wpAnyH_ready (rs:=[15]) X_ Zi ?_;refine AllReadyH.cons (i:=15) rfl (fun K hK=>?_) ?_
     ·(first|(go_split_ands;refine Ze Zr (.const (.slice none 0 0)) (.tmp 46) 48 Zr w1 UX (.slice none 0 0) 0 [] Zr (TV _ _ _ _) (.slice a P.length cap) P.length (P.flatMap Zg) Zr ?_ Am.o Ao.o Zo Zo ?_ ?_;(exact(SR.o _ V8).1);(exact Below.size V8);intro v1 w2 T9 Ot;have Uj:=XB Ot.o;have Yp:Below w1 w1 w2:=Heap.Below.call V8 (Zw _) Uj;have r2:Below w2 w2 w2:=YI _ _;have rs2:Below ws ws w2:=Heap.Below.call V8 (Zw _) Uj;obtain⟨k2,k3⟩:=ZB.o _ Yp)|(go_split_ands;refine Ze Zr (.const (.slice none 0 0)) (.tmp 46) 48 Zr w1 UX (.slice none 0 0) 0 [] Zr (TV _ _ _ _) (.slice a P.length cap) P.length (P.flatMap Zg) Zr ?_ Am.o Ao.o Zo Zo ?_ ?_;(exact(SR.o _ V8).1);(exact Below.size V8);intro v1 w2 T9 Ot;have Uj:=XB Ot.o;have Yp:Below w1 w1 w2:=Heap.Below.call V8 (Zw _) Uj;have r2:Below w2 w2 w2:=YI _ _;  obtain⟨k2,k3⟩:=ZB.o _ Yp)|(go_split_ands;refine Rf Zr (.const (.slice none 0 0)) (.tmp 53) 29 Zr w1 Vo (.slice none 0 0) 0 [] Zr (TV _ _ _ _) (.slice sa ss.length sc) ss.length (YN ss) Zr ?_ Ht.o (QY _) Zo Zo ?_ ?_;(exact(SR.o _ V8).2.2);(exact Below.size V8);intro vs ws BW jz;have sx:=XB jz.o;have FA:Below w1 w1 ws:=Heap.Below.call V8 (Zw _) sx;have rs:Below ws ws ws:=YI _ _;have r2s:Below w2 w2 ws:=Heap.Below.call V8 (Zw _) sx;obtain⟨k2,k3⟩:=ZB.o _ FA;have Mn:=Zh (Row.Z4 BW.o);obtain⟨Ad,Ae,hv⟩:=Wu BW.o;rw[PW]at hv Mn;rw[Hz]at Mn;subst hv)|(go_split_ands;refine Rf Zr (.const (.slice none 0 0)) (.tmp 53) 29 Zr w1 Vo (.slice none 0 0) 0 [] Zr (TV _ _ _ _) (.slice sa ss.length sc) ss.length (YN ss) Zr ?_ Ht.o (QY _) Zo Zo ?_ ?_;(exact(SR.o _ V8).2.2);(exact Below.size V8);intro vs ws BW jz;have sx:=XB jz.o;have FA:Below w1 w1 ws:=Heap.Below.call V8 (Zw _) sx;have rs:Below ws ws ws:=YI _ _;  obtain⟨k2,k3⟩:=ZB.o _ FA;have Mn:=Zh (Row.Z4 BW.o);obtain⟨Ad,Ae,hv⟩:=Wu BW.o;rw[PW]at hv Mn;rw[Hz]at Mn;subst hv)|(go_split_ands;refine Ze Zr (.tmp 47) (.tmp 56) 48 Zr w1 UX v1 (0+P.length) ([]++P.flatMap Zg) Zr ?_ _ 1 (Qp n p Ad ss.length Ae false) Zr ?_ Zr (La ⟨n,p,ss,false⟩ Ad ss.length Ae) Zo Zo ?_ ?_;(exact Zv T9.o V8);(repeat(first|((with_reducible refine Ta _ _ 1 (Qp n p Ad ss.length Ae false) Zd _ ?_);rfl)|with_reducible refine Row.drew ?_|with_reducible refine Row.below ?_ Uj));(exact Below.size V8);intro v2 w3 Po JY;have Wf:Below w1 w1 w3:=Below.grown V8 JY.o (Below.size V8) (YL T9.o);have aC:=Row.grown (Mn.o.below V8) (Zv T9.o V8) JY.o Zd;obtain⟨k6,k7⟩:=ZB.o _ Wf;obtain⟨va,vc,hv⟩:=Wu Po.o;subst hv))
      refine hK.out _ _ ?_ (fun _=>?_)
      ·exact MM
      clear hK K;try simp only[Z_.pt]
      refine YA 16 (h:=YA 17 (h:=?_));refine wpAnyH_ready (rs:=[18]) X_ Zi ?_;refine AllReadyH.cons (i:=18) rfl (fun K hK=>?_) ?_
      ·go_simp;refine hK.out _ _ ?_ (fun _=>?_)
       ·exact MM
       clear hK K;try simp only[Z_.pt]
       refine wpAnyH_done X_ ?_ _;refine QZ ?_;go_wp2
       go_ret2
       obtain⟨Ej,dv⟩:=eT.o _ Wf;have ZW:=Row.Z4 Po.o;rw[Hz,PW]at ZW
       have yE:=Ej.G7 (P++[(⟨n,p,ss,false⟩,.slice Ad ss.length Ae)]) (l:=T.Yj++[⟨n,p,ss,false⟩]) (by rw[Nv,eI.o];rfl) (by rw[show(P++[((⟨n,p,ss,false⟩:Wd),Value.slice Ad ss.length Ae)]).flatMap Zg=P.flatMap Zg++[.int .i64 n,.int .i64 p,.slice Ad ss.length Ae,.bool false] by rw[OD];rfl,show(P++[((⟨n,p,ss,false⟩:Wd),Value.slice Ad ss.length Ae)]).length=P.length+1 by simp];exact ZW) (fun x hx=>by
        rcases EN.1 hx with hx|hx
        ·exact(SR.o _ Wf).2.1 x hx
        ·rw[J7]at hx;subst hx;exact aC)
       exact Vj HF (Row.nil _ _) yE (dv.setAt _ _)
      exact AllReadyH.nil
     exact AllReadyH.nil
    exact AllReadyH.nil
   exact AllReadyH.nil
  exact AllReadyH.nil
 exact AllReadyH.nil
end Go.Proofs.Rm
namespace Go.Proofs.Rm
open Go.RowKit Go.Proofs.Heap Go.Proofs.Mem
open Go.Proofs.ND (may key Xu)
theorem Ex(b:Nat)(T:ZO)(o:Op)(sa ba:Option Addr)(sc bl bc:Nat)(w:World)(hR:ZM w b T)(Vl:T.Small)(hT:Xu w)(UT:o.name.length<9223372036854775807)(SV:∀x∈T.Zz,x.name.length<9223372036854775807)
  (ZW:XM w (.slice sa o.ZK.length sc) o.ZK.length (YN o.ZK)) (hw:T.XW o=0) (We:o8 T o) (hk:o.kind=6) :
  Calls prog 72 (Qi (some ⟨b,0,none⟩) (Jq o sa o.ZK.length sc ba bl bc)) w (UU b T o w):=by
 have cw:=V9 b T o sa ba sc bl bc (w.alloc (.cells (Jq o sa o.ZK.length sc ba bl bc) 32)) (hR.below (Z' _ _)) (Utf8Tabs_below hT (Z' _ _)) UT SV (ZW.below (Z' _ _));have hb:=hR.lt;have P_:=Zh ZW;have HR:=Zh hR;have LY:=Zh Vl;have HF:Hid (T.WG o=(T.subscribe o,0)):=by show _=_;unfold ZO.WG ZO.turns;rw[Z3 (by rw[hw];simp)];simp[hk]
 rw[hw]at cw;have CW:=Zh cw;have Px:=Zh We;obtain⟨kd,p,n,la,nm,ss⟩:=o;dsimp only at *
 subst hk;have yG:=Vl.ZY;unfold small at yG;obtain⟨pv,sv,uv,Yn,XF⟩:=hR.Vv;have U1:=XF.ZY;obtain⟨a,cap,rfl,OX,-,-,-⟩:=id U1;have Hs:Hid (∀w',Below w w w'→Row w' 105 (.slice a T.ZY.length cap) T.ZY.length (T.ZY.flatMap Zq)):=fun w' h=>U1.below h
 have Am:=Zh (Tq T.ZY);have HC:Hid (∀w',Below w w w'→w'.cell? ⟨b,2,none⟩=some (.slice a T.ZY.length cap)∧w'.frozen? ⟨b,2,none⟩=false):=fun w' h=>⟨(h.cell (p:=⟨b,2,none⟩) hb).trans (cell_of Yn 2),(h.frozen (p:=⟨b,2,none⟩) hb).trans (hR.YB 2)⟩
 have g_:0≤(T.Vg ⟨p,n,la,false⟩).YV n:=We.src Zi;have DX:=Zh (fun(w1:World) (h:ZM w1 b (T.Vg ⟨p,n,la,false⟩))=>GL b (T.Vg ⟨p,n,la,false⟩) ⟨p,n,la,false⟩ w1 h g_ (We.ZI rfl));have HSU:Hid (T.subscribe ⟨6,p,n,la,nm,ss⟩=(⟨1,p,n,la,0⟩ :: (if((T.Vg ⟨p,n,la,false⟩).V6 n).ZN then[⟨6,p,n,0,0⟩]else[(T.Vg ⟨p,n,la,false⟩).ask ⟨p,n,la,false⟩]),T.Vg ⟨p,n,la,false⟩)):=rfl;obtain⟨m,hm,OW,-,-⟩:=XE g_;have OW:(T.Vg ⟨p,n,la,false⟩).YV n=m:=OW
 have CS:Hid (∀w1,ZM w1 b (T.Vg ⟨p,n,la,false⟩)→Calls prog 49 (Qj (some ⟨b,0,none⟩) n) w1 fun e w'=>e = .returned (.int .i64 m)∧Below w1 w1 w'):=fun w1 h=>by
  have h1:=VV b _ n w1 h;rw[OW]at h1;exact h1
 have nT:Hid (((T.Vg ⟨p,n,la,false⟩).V6 n).ZN=(T.Vg ⟨p,n,la,false⟩).Yj[m].ZN):=by
  show _=_;unfold ZO.V6;rw[OW,Wl,Q_,Ve hm];rfl
 clear U1 Yn XF g_ OW;clear hR Vl hT UT SV ZW cw hw We;have GD:=Zh (Z9 w (.cells (Qa 6 p n la (str nm) sa ss.length sc ba bl bc) 32));have E3:=World.size_alloc w (.cells (Qa 6 p n la (str nm) sa ss.length sc ba bl bc) 32);have SZ:Hid (Below w w (w.alloc (.cells (Qa 6 p n la (str nm) sa ss.length sc ba bl bc) 32))):=Z' _ _;go_enter func72,ntmps72;go_wp2_with fail
 (with_reducible refine CW.o.mono ?_)
 rintro e w1 ⟨rfl,YZ⟩;have VN:Hid (Below w w w1):=SZ.o.trans (YZ.mono Zo);have RR:w.heap.size<w1.heap.size:=by have:=YZ.size;omega
 have V5:=fun(j:Nat)=>(YZ.cell (p:=⟨w,j,none⟩) T_).trans (cell_of GD.o j)
 have x0:w1.cell? ⟨w,0,none⟩=some (.int .i64 6):=V5 0;have x1:w1.cell? ⟨w,1,none⟩=some (.int .i64 p):=V5 1;have x2:w1.cell? ⟨w,2,none⟩=some (.int .i64 n):=V5 2;have x3:w1.cell? ⟨w,3,none⟩=some (.int .i64 la):=V5 3;have x4:w1.cell? ⟨w,4,none⟩=some (.string (str nm)):=V5 4;have x5:w1.cell? ⟨w,5,none⟩=some (.slice sa ss.length sc):=V5 5;have x6:w1.cell? ⟨w,6,none⟩=some (.slice ba bl bc):=V5 6;clear YZ V5;have zX:=size_alloc w1 (.cells (Qk p n la false) 105);have IM:=Z9 w1 (.cells (Qk p n la false) 105);have HV1:=Z' w1 (.cells (Qk p n la false) 105);have z1:=(HV1.cell (p:=⟨w,1,none⟩) RR).trans x1;have z2:=(HV1.cell (p:=⟨w,2,none⟩) RR).trans x2;have z3:=(HV1.cell (p:=⟨w,3,none⟩) RR).trans x3;go_upto_region 15 with fail
 clear x0 x1 x2 x3 x4 x5 x6;generalize w1.alloc (.cells (Qk p n la false) 105)=V at *
 have BS:Hid (Below w w V):=VN.o.trans (HV1.mono Zo);have hVs:w.heap.size<V.heap.size:=by omega
 have gB:w1.heap.size<V.heap.size:=by omega
 have hb1n:¬b=w1.heap.size:=by have:=VN.o.size;omega
 have hb1n':¬w1.heap.size=b:=by omega
 have ZB:Hid (∀w',Below V V w'→w'.cell? ⟨b,2,none⟩=some (.slice a T.ZY.length cap)∧w'.frozen? ⟨b,2,none⟩=false):=fun w' h=>HC.o _ (BS.o.trans (h.mono Zo))
 have SR:Hid (∀w',Below V V w'→Row w' 105 (.slice a T.ZY.length cap) T.ZY.length (T.ZY.flatMap Zq)):=fun w' h=>Hs.o _ (BS.o.trans (h.mono Zo))
 have eT:Hid (∀w',Below V V w'→ZM w' b T∧Fr w (· = b) w w'):=fun w' h=>⟨HR.o.below (BS.o.trans (h.mono Zo)),Fr.Z6 _ (BS.o.trans (h.mono Zo))⟩
 have Hv:Hid (∀w',Fr V (· = b) V w'→w'.cell? ⟨w1,0,none⟩=some (.int .i64 p)∧w'.cell? ⟨w1,1,none⟩=some (.int .i64 n)∧w'.cell? ⟨w1,2,none⟩=some (.int .i64 la)∧w'.cell? ⟨w1,3,none⟩=some (.bool false)∧Fr V (· = b) V w'):=fun w' h=>⟨(h.cell (p:=⟨w1,0,none⟩) gB T_).trans (cell_of IM 0),(h.cell (p:=⟨w1,1,none⟩) gB T_).trans (cell_of IM 1),(h.cell (p:=⟨w1,2,none⟩) gB T_).trans (cell_of IM 2),(h.cell (p:=⟨w1,3,none⟩) gB T_).trans (cell_of IM 3),h⟩
 have bN:Hid (∀w',Fr V (· = b) V w'→w'.cell? ⟨w,1,none⟩=some (.int .i64 p)∧w'.cell? ⟨w,2,none⟩=some (.int .i64 n)∧w'.cell? ⟨w,3,none⟩=some (.int .i64 la)):=fun w' h=>⟨(h.cell (p:=⟨w,1,none⟩) hVs T_).trans z1,(h.cell (p:=⟨w,2,none⟩) hVs T_).trans z2,(h.cell (p:=⟨w,3,none⟩) hVs T_).trans z3⟩
 have Nw:Below V V V:=YI _ _;obtain⟨k0,k1⟩:=ZB.o _ Nw;have hbw1:b<V.heap.size:=by omega
 have ne1:=World.new_ne V ⟨b,2,none⟩ k0;clear Hs HC HV1 z1 z2 z3 IM zX;go_cut [] (fun wx=>ZM wx b (T.Vg ⟨p,n,la,false⟩)∧Fr w (· = b) w wx∧Fr V (· = b) V wx)
 case first=>
  refine R5 ?_;refine wp_region_held_drew (S:=(fun w'=>w'.cell? ⟨w1,0,none⟩=some (.int .i64 p)∧w'.cell? ⟨w1,1,none⟩=some (.int .i64 n)∧w'.cell? ⟨w1,2,none⟩=some (.int .i64 la)∧w'.cell? ⟨w1,3,none⟩=some (.bool false)∧Fr V (· = b) V w')) X_ ?_ (fun _=>?_)
  ·exact MM
  refine YA 0 (h:=YA 1 (h:=YA 2 (h:=YA 3 (h:=YA 6 (h:=?_)))));refine wpAnyH_ready (rs:=[4,7]) X_ Zi ?_;refine AllReadyH.cons (i:=4) rfl (fun K hK=>?_) ?_
  ·go_simp;refine hK.out _ _ ?_ (fun _=>?_)
   ·exact MM
   clear hK K;try simp only[Z_.pt]
   refine wpAnyH_ready (rs:=[5,7]) X_ Zi ?_;refine AllReadyH.cons (i:=5) rfl (fun K hK=>?_) ?_
   ·(first|(go_split_ands;refine Ze Zr (.const (.slice none 0 0)) (.tmp 79) 49 Zr V Ug (.slice none 0 0) 0 [] Zr (TV _ _ _ _) (.slice a T.ZY.length cap) T.ZY.length (T.ZY.flatMap Zq) Zr ?_ Am.o (Tt _) Zo Zo ?_ ?_;(exact SR.o _ V8);(exact Below.size V8);intro v1 w2 T9 Ot;have Uj:=XB Ot.o;have Yp:Below V V w2:=Heap.Below.call V8 (Zw _) Uj;have r2:Below w2 w2 w2:=YI _ _;obtain⟨k2,k3⟩:=ZB.o _ Yp)|(go_split_ands;refine Ze Zr (.tmp 80) (.tmp 82) 49 Zr V Ug v1 (0+T.ZY.length) ([]++T.ZY.flatMap Zq) Zr ?_ _ 1 (Qk p n la false) Zr ?_ Zr (Lb ⟨p,n,la,false⟩) Zo Zo ?_ ?_;(exact Zv T9.o V8);(repeat(first|((with_reducible refine Ta _ _ 1 (Qk p n la false) Zd _ ?_);rfl)|with_reducible refine Row.drew ?_|with_reducible refine Row.below ?_ Uj));(exact Below.size V8);intro v2 w3 Po JY;have Wf:Below V V w3:=Below.grown V8 JY.o (Below.size V8) (YL T9.o);obtain⟨k6,k7⟩:=ZB.o _ Wf;obtain⟨va,vc,hv⟩:=Wu Po.o;subst hv))
    refine hK.out _ _ ?_ (fun _=>?_)
    ·exact MM
    clear hK K;try simp only[Z_.pt]
    refine wpAnyH_ready (rs:=[7]) X_ Zi ?_;refine AllReadyH.cons (i:=7) rfl (fun K hK=>?_) ?_
    ·go_simp;exact Yx7
    exact AllReadyH.nil
   refine AllReadyH.cons (i:=7) rfl (fun K hK=>?_) ?_
   ·exact Yx28
   exact AllReadyH.nil
  refine AllReadyH.cons (i:=7) rfl (fun K hK=>?_) ?_
  ·go_simp;refine hK.out _ _ ?_ (fun _=>?_)
   ·exact MM
   clear hK K;try simp only[Z_.pt]
   refine wpAnyH_ready (rs:=[4]) X_ Zi ?_;refine AllReadyH.cons (i:=4) rfl (fun K hK=>?_) ?_
   ·exact Yx28
   exact AllReadyH.nil
  exact AllReadyH.nil
 case rest=>
  obtain⟨UY,Wm,hfv⟩:=hcut;obtain⟨W5,rfl⟩:∃W5:World,W5=wc:=⟨_,rfl⟩;obtain⟨y0,y1,y2,y3,-⟩:=Hv.o _ hfv;obtain⟨x1,x2,x3⟩:=bN.o _ hfv;have hs5:=hfv.size;have bM:=Zh UY;have HFR5:=Zh Wm;clear Nw k0 k1 ne1 UY Wm hfv;have Uj:=Z' W5 (.cells (Qh 1 p n la 0) 158);have ht:=Z9 W5 (.cells (Qh 1 p n la 0) 158);have lg:=bM.o.alloc (.cells (Qh 1 p n la 0) 158);have cS:=HFR5.o.alloc Zo (.cells (Qh 1 p n la 0) 158);have hU:=World.size_alloc W5 (.cells (Qh 1 p n la 0) 158);have dW:=(Uj.cell (p:=⟨w1,0,none⟩) T_).trans y0;have y1':=(Uj.cell (p:=⟨w1,1,none⟩) T_).trans y1;have iD:=(Uj.cell (p:=⟨w1,2,none⟩) T_).trans y2;have dX:=(Uj.cell (p:=⟨w1,3,none⟩) T_).trans y3;have yp':=(Uj.cell (p:=⟨w,1,none⟩) T_).trans x1;have yb':=(Uj.cell (p:=⟨w,2,none⟩) T_).trans x2;go_upto_region 17 with fail
  generalize W5.alloc (.cells (Qh 1 p n la 0) 158)=W6 at *
  have xy:=Zh lg;have bF:=Zh cS;obtain⟨pv6,sv6,uv6,MX,Im⟩:=lg.Vv;obtain⟨P,Tj,U1,Bd⟩:=Im.Yj;have lM:m<P.length:=by rw[←Tj,Tx]at hm;exact hm
  have cT:=U1.len;have s1:=cell_of MX 1;obtain⟨pa,pc,rfl,-,-⟩:=id U1;obtain⟨gs,QO,e4,TN⟩:=Su U1 Zo;subst e4;obtain⟨-,-,-,s4⟩:=TN m P[m] (Ve lM)
  have cU:P[m].1.ZN=(T.Vg ⟨p,n,la,false⟩).Yj[m].ZN:=by
   have:(P.map Prod.fst)[m]?=(T.Vg ⟨p,n,la,false⟩).Yj[m]?:=by rw[Tj]
   rw[List.getElem?_map,Ve lM,Ve hm]at this;simp at this;rw[this]
  rw[cU]at s4
  have hgs:gs<W6.heap.size:=by
   exact Yt26
  have lL:(m:Int)<(P.length:Int):=P6.2 lM;have qg:(0:Int)≤(m:Int):=n7 m;have Cv:b<W6.heap.size:=by omega
  have sB:w1.heap.size<W6.heap.size:=by omega
  have Ct:W5.heap.size<W6.heap.size:=by omega
  have aM:w.heap.size<W6.heap.size:=by omega
  have FI:w.heap.size≤W6.heap.size:=by omega
  clear MX Im Tj U1 Bd TN cU lg cS hU;generalize P.length=NP at *
  generalize(T.Vg ⟨p,n,la,false⟩).Yj[m].ZN=mu at *
  have U0:Hid (∀w',Below W6 W6 w'→(w'.cell? ⟨w1,0,none⟩=some (.int .i64 p)∧w'.cell? ⟨w1,1,none⟩=some (.int .i64 n)∧w'.cell? ⟨w1,2,none⟩=some (.int .i64 la)∧w'.cell? ⟨w1,3,none⟩=some (.bool false))∧(w'.cell? ⟨W5,0,none⟩=some (.int .i64 1)∧w'.cell? ⟨W5,1,none⟩=some (.int .i64 p)∧w'.cell? ⟨W5,2,none⟩=some (.int .i64 n)∧w'.cell? ⟨W5,3,none⟩=some (.int .i64 la)∧w'.cell? ⟨W5,4,none⟩=some (.int .u32 0))∧w'.cell? ⟨w,1,none⟩=some (.int .i64 p)∧w'.cell? ⟨w,2,none⟩=some (.int .i64 n)∧w'.cell? ⟨b,1,none⟩=some (.slice (some ⟨gs,QO,none⟩) NP pc)∧w'.cell? ⟨gs,QO+m*4+3,none⟩=some (.bool mu)∧Below W6 W6 w'):=fun w' h=>
   ⟨⟨(h.cell (p:=⟨w1,0,none⟩) sB).trans dW,(h.cell (p:=⟨w1,1,none⟩) sB).trans y1',(h.cell (p:=⟨w1,2,none⟩) sB).trans iD,(h.cell (p:=⟨w1,3,none⟩) sB).trans dX⟩,⟨(h.cell (p:=⟨W5,0,none⟩) Ct).trans (cell_of ht 0),(h.cell (p:=⟨W5,1,none⟩) Ct).trans (cell_of ht 1),(h.cell (p:=⟨W5,2,none⟩) Ct).trans (cell_of ht 2),(h.cell (p:=⟨W5,3,none⟩) Ct).trans (cell_of ht 3),(h.cell (p:=⟨W5,4,none⟩) Ct).trans (cell_of ht 4)⟩,(h.cell (p:=⟨w,1,none⟩) aM).trans yp',(h.cell (p:=⟨w,2,none⟩) aM).trans yb',(h.cell (p:=⟨b,1,none⟩) Cv).trans s1,(h.cell (p:=⟨gs,QO+m*4+3,none⟩) hgs).trans s4,h⟩
  clear ht y0 y1 y2 y3 x1 x2 x3 dW y1' iD dX yb' yp' s1 s4 Uj bM HFR5 ZB Hv bN SR eT HR LY VN BS Am;generalize T.Vg ⟨p,n,la,false⟩=T1 at *
  generalize T1.ask ⟨p,n,la,false⟩=TA at *
  have Nw:Below W6 W6 W6:=YI _ _;go_cut [103] (fun s103 wx=>s103 = .bool mu∧Below W6 W6 wx)
  case first=>
   go_region_held3 (fun w'=>(w'.cell? ⟨w1,0,none⟩=some (.int .i64 p)∧w'.cell? ⟨w1,1,none⟩=some (.int .i64 n)∧w'.cell? ⟨w1,2,none⟩=some (.int .i64 la)∧w'.cell? ⟨w1,3,none⟩=some (.bool false))∧(w'.cell? ⟨W5,0,none⟩=some (.int .i64 1)∧w'.cell? ⟨W5,1,none⟩=some (.int .i64 p)∧w'.cell? ⟨W5,2,none⟩=some (.int .i64 n)∧w'.cell? ⟨W5,3,none⟩=some (.int .i64 la)∧w'.cell? ⟨W5,4,none⟩=some (.int .u32 0))∧w'.cell? ⟨w,1,none⟩=some (.int .i64 p)∧w'.cell? ⟨w,2,none⟩=some (.int .i64 n)∧w'.cell? ⟨b,1,none⟩=some (.slice (some ⟨gs,QO,none⟩) NP pc)∧w'.cell? ⟨gs,QO+m*4+3,none⟩=some (.bool mu)∧Below W6 W6 w') (first|(exact U0.o _ WQ)|(exact U0.o _ (Below.drew WQ))|go_keep) (first|(go_at_call 49;go_split_ands;(with_reducible refine Calls.mono (CS.o _ (xy.o.below WQ)) ?_);rintro e V2 ⟨rfl,Nq⟩;have MW:=Heap.Below.call WQ (Zw _) Nq)|fail)
   all_goals(go_wp2_with fail;go_meet;exact⟨rfl,by first|with_reducible assumption|exact Below.drew WQ⟩)
  case rest=>
   clear Nw;obtain⟨rfl,Nz⟩:=hcut;obtain⟨W7,rfl⟩:∃W7:World,W7=wc:=⟨_,rfl⟩;cases mu
   ·have nV:Hid (T.subscribe ⟨6,p,n,la,nm,ss⟩=([⟨1,p,n,la,0⟩,TA],T1)):=by show _=_;rw[HSU.o,nT.o];rfl
    go_upto_region 19 with fail
    go_region_held3 (fun w'=>(w'.cell? ⟨w1,0,none⟩=some (.int .i64 p)∧w'.cell? ⟨w1,1,none⟩=some (.int .i64 n)∧w'.cell? ⟨w1,2,none⟩=some (.int .i64 la)∧w'.cell? ⟨w1,3,none⟩=some (.bool false))∧(w'.cell? ⟨W5,0,none⟩=some (.int .i64 1)∧w'.cell? ⟨W5,1,none⟩=some (.int .i64 p)∧w'.cell? ⟨W5,2,none⟩=some (.int .i64 n)∧w'.cell? ⟨W5,3,none⟩=some (.int .i64 la)∧w'.cell? ⟨W5,4,none⟩=some (.int .u32 0))∧w'.cell? ⟨w,1,none⟩=some (.int .i64 p)∧w'.cell? ⟨w,2,none⟩=some (.int .i64 n)∧w'.cell? ⟨b,1,none⟩=some (.slice (some ⟨gs,QO,none⟩) NP pc)∧w'.cell? ⟨gs,QO+m*4+3,none⟩=some (.bool false)∧Below W6 W6 w') (first|(exact U0.o _ WQ)|(exact U0.o _ (Below.drew WQ))|(exact U0.o _ (Heap.Below.alloc' WQ (Zw _) _))|(exact U0.o _ (Heap.Below.alloc' (Below.drew WQ) (Zw _) _))|go_keep) (first|(go_at_call 99;go_split_ands;(with_reducible refine Calls.mono (DX.o _ (xy.o.below WQ)) ?_);rintro e V3 ⟨rfl,Nq⟩;have Eg:=Heap.Below.call WQ (Zw _) Nq;unfold VZ)|fail)
    go_wp2
    go_ret2
    rw[nV.o]at HF;exact Vj HF (Yw _ _ 2 _ ([⟨1,p,n,la,0⟩,TA].flatMap Z7) Zd rfl) (xy.o.below (Eg.alloc Eg.size _)) (bF.o.trans ((Fr.Z6 _ (Eg.alloc Eg.size _)).mono FI (fun _ _ h=>h)))
   ·have nV:Hid (T.subscribe ⟨6,p,n,la,nm,ss⟩=([⟨1,p,n,la,0⟩,⟨6,p,n,0,0⟩],T1)):=by show _=_;rw[HSU.o,nT.o];rfl
    obtain⟨-,⟨t0,t1,t2,t3,t4⟩,q1,q2,-⟩:=U0.o _ Nz;have hzt:W5.heap.size<W7.heap.size:=OB Ct Nz.size;have hzw:w.heap.size<W7.heap.size:=OB aM Nz.size;go_wp2
    go_ret2
    rw[nV.o]at HF;exact Vj HF (Yw _ _ 2 _ ([⟨1,p,n,la,0⟩,⟨6,p,n,0,0⟩].flatMap Z7) Zd rfl) ((xy.o.below Nz).alloc _) ((bF.o.trans ((Fr.Z6 _ Nz).mono FI (fun _ _ h=>h))).alloc (PX FI Nz.size) _)
theorem iy(b:Nat)(T:ZO)(o:Op)(sa ba:Option Addr)(sc bl bc:Nat)(w:World)(hR:ZM w b T)(Vl:T.Small)(hT:Xu w)(UT:o.name.length<9223372036854775807)(SV:∀x∈T.Zz,x.name.length<9223372036854775807)
  (ZW:XM w (.slice sa o.ZK.length sc) o.ZK.length (YN o.ZK)) (We:T.XW o=0→o8 T o) :
  Calls prog 72 (Qi (some ⟨b,0,none⟩) (Jq o sa o.ZK.length sc ba bl bc)) w (UU b T o w):=by
 by_cases hw:T.XW o=0
 ·have ok:=We hw;have hk:=ok.kind;have:o.kind=2∨o.kind=3∨o.kind=4∨o.kind=5∨o.kind=6∨o.kind=7∨o.kind=8∨o.kind=9∨o.kind=10∨o.kind=11∨o.kind=12:=by omega
  rcases this with h|h|h|h|h|h|h|h|h|h|h
  ·exact np b T o sa ba sc bl bc w hR Vl hT UT SV ZW hw ok h
  ·exact qW b T o sa ba sc bl bc w hR Vl hT UT SV ZW hw ok h
  ·exact zl b T o sa ba sc bl bc w hR Vl hT UT SV ZW hw ok h
  ·exact Ey b T o sa ba sc bl bc w hR Vl hT UT SV ZW hw ok h
  ·exact Ex b T o sa ba sc bl bc w hR Vl hT UT SV ZW hw ok h
  ·exact Hn b T o sa ba sc bl bc w hR Vl hT UT SV ZW hw ok h
  ·exact nr b T o sa ba sc bl bc w hR Vl hT UT SV ZW hw ok h
  ·exact vv b T o sa ba sc bl bc w hR Vl hT UT SV ZW hw ok h
  ·exact qX b T o sa ba sc bl bc w hR Vl hT UT SV ZW hw ok h
  ·exact vr b T o sa ba sc bl bc w hR Vl hT UT SV ZW hw ok h
  ·exact nu b T o sa ba sc bl bc w hR Vl hT UT SV ZW hw ok h
 ·exact iz b T o sa ba sc bl bc w hR Vl hT UT SV ZW hw
end Go.Proofs.Rm
