/- Part of a proof. -/
import Derived.Test.YtpdjhlcbcomdkaaGreatDoorW15
import Derived.Test.YtpdjhlcbcomdkaaGreatDoorW17
set_option linter.unusedVariables false
set_option linter.unusedSimpArgs false
set_option maxRecDepth 100000
set_option maxHeartbeats 16000000
open Go Go.Q Go.Qr
namespace Go.Proofs.Rm
open Go.RowKit Go.Proofs.Heap Go.Proofs.Mem
open Go.Proofs.Od (may key Xz)
structure rX (T:ZN) (o:Op):Prop where
 kind:2≤o.kind∧o.kind≤12
 peer:1≤o.peer
 ssl:o.kind=4→o.ZK.length≤3
 leave:o.kind=3→0≤T.XI o.peer
 src:5≤o.kind→0≤T.YU o.source
 ZF:o.kind=6→0≤o.ZF∧o.ZF<(T.Wc o.source).ss.length
 sub:o.kind=7∨10≤o.kind→0≤T.Zb o.peer o.source
 fE:o.kind=9→∀ x∈(T.ZJ o.source false).Z5,x.source=o.source→0≤(T.ZJ o.source false).YU o.source∧0≤x.want∧x.want<((T.ZJ o.source false).Wc o.source).ss.length
 change:∀ k,(o.kind=10∧k=4∨o.kind=11∧k=5∨o.kind=12∧k=8)→0≤(T.changed o k).want∧(T.changed o k).want<(T.Wc o.source).ss.length
def U1 (b:Nat) (T:ZN) (o:Op) (w:World) (e:Ending) (w':World):Prop:=
 (∃ v,e = .returned (.tuple #[v,.int .i64 (T.Wm o).2])∧YG w' v (T.Wm o).1.1)∧ZL w' b (T.Wm o).1.2∧Fr w (· = b) w w'
theorem Vo {b:Nat} {T T':ZN} {o:Op} {w w':World} {v:Value} {l:List YD} {c:Int} (h:Hid (T.Wm o=((l,T'),c))) (h1:YG w' v l) (h2:ZL w' b T') (h3:Fr w (· = b) w w'):U1 b T o w (.returned (.tuple #[v,.int .i64 c])) w':=by
 unfold U1
 rw [h.o]
 exact ⟨⟨v,rfl,h1⟩,h2,h3⟩
theorem lN (b:Nat) (T:ZN) (o:Op) (sa ba:Option Addr) (sc bl bc:Nat) (w:World) (hR:ZL w b T) (Vq:T.Small) (hT:Xz w) (U0:o.name.length<9223372036854775807) (S7:∀ x∈T.ZA,x.name.length<9223372036854775807)
  (Z0:XU w (.slice sa o.ZK.length sc) o.ZK.length (YO o.ZK)) (hw:T.X5 o≠0) :
  Calls Tryz.prog 72 (Qi (some ⟨b,0,none⟩) (Jm o sa o.ZK.length sc ba bl bc)) w (U1 b T o w):=by
 have cw:=Wf b T o sa ba sc bl bc (w.alloc (.cells (Jm o sa o.ZK.length sc ba bl bc) 32)) (hR.below (Z' _ _)) (Utf8Tabs_below hT (Z' _ _)) U0 S7 (Z0.below (Z' _ _))
 have hb:=hR.lt
 have QX:=Zh Z0
 have HR:=Zh hR
 have MF:=Zh Vq
 have HF:Hid (T.Wm o=(([],T),T.X5 o)):=by show _=_;unfold ZN.Wm;rw [ZQ hw]
 have CW:=Zh cw
 have hbn:(T.X5 o != 0)=true:=by rw [R6];exact hw
 have uY:(T.X5 o == 0)=false:=by rw [WQ];exact hw
 obtain ⟨kd,p,n,la,nm,ss⟩:=o
 dsimp only at *
 clear hR Vq hT U0 S7 Z0 cw hw
 generalize T.X5 ⟨kd,p,n,la,nm,ss⟩=wv at *
 have M3:=Zh (Z7 w (.cells (Qa kd p n la (str nm) sa ss.length sc ba bl bc) 32))
 have Gi:=World.size_alloc w (.cells (Qa kd p n la (str nm) sa ss.length sc ba bl bc) 32)
 have Ta:Hid (Below w w (w.alloc (.cells (Qa kd p n la (str nm) sa ss.length sc ba bl bc) 32))):=Z' _ _
 go_enter Tryz.func72,Tryz.ntmps72
 go_wp2_with fail
 (with_reducible refine CW.o.mono ?_)
 rintro e w1 ⟨rfl,YZ⟩
 have VQ:Hid (Below w w w1):=Ta.o.trans (YZ.mono Zo)
 have R_:w.heap.size<w1.heap.size:=by have:=YZ.size;omega
 have Wb:=fun (j:Nat)=>(YZ.cell (p:=⟨w,j,none⟩) Uj).trans (cell_of M3.o j)
 have x0:w1.cell? ⟨w,0,none⟩=some (.int .i64 kd):=Wb 0
 have x1:w1.cell? ⟨w,1,none⟩=some (.int .i64 p):=Wb 1
 have x2:w1.cell? ⟨w,2,none⟩=some (.int .i64 n):=Wb 2
 have x3:w1.cell? ⟨w,3,none⟩=some (.int .i64 la):=Wb 3
 have x4:w1.cell? ⟨w,4,none⟩=some (.string (str nm)):=Wb 4
 have x5:w1.cell? ⟨w,5,none⟩=some (.slice sa ss.length sc):=Wb 5
 have x6:w1.cell? ⟨w,6,none⟩=some (.slice ba bl bc):=Wb 6
 clear YZ Wb
 go_wp2
 go_ret2
 exact Vo HF (Row.nil _ _) (HR.o.below VQ.o) (Fr.Z8 _ VQ.o)
theorem tY (b:Nat) (T:ZN) (o:Op) (sa ba:Option Addr) (sc bl bc:Nat) (w:World) (hR:ZL w b T) (Vq:T.Small) (hT:Xz w) (U0:o.name.length<9223372036854775807) (S7:∀ x∈T.ZA,x.name.length<9223372036854775807)
  (Z0:XU w (.slice sa o.ZK.length sc) o.ZK.length (YO o.ZK)) (hw:T.X5 o=0) (V_:rX T o) (hk:o.kind=3) :
  Calls Tryz.prog 72 (Qi (some ⟨b,0,none⟩) (Jm o sa o.ZK.length sc ba bl bc)) w (U1 b T o w):=by
 have cw:=Wf b T o sa ba sc bl bc (w.alloc (.cells (Jm o sa o.ZK.length sc ba bl bc) 32)) (hR.below (Z' _ _)) (Utf8Tabs_below hT (Z' _ _)) U0 S7 (Z0.below (Z' _ _))
 have hb:=hR.lt
 have QX:=Zh Z0
 have HR:=Zh hR
 have MF:=Zh Vq
 have HF:Hid (T.Wm o=(T.leave o.peer,0)):=by show _=_;unfold ZN.Wm ZN.turns;rw [Z4 (by rw [hw];simp)];simp [hk]
 rw [hw] at cw
 have CW:=Zh cw
 have P8:=Zh V_
 obtain ⟨kd,p,n,la,nm,ss⟩:=o
 dsimp only at *
 subst hk
 have C:=Zh (fun (w1:World) (h:ZL w1 b T)=>xY b T p w1 h Vq V_.peer (V_.leave rfl))
 clear hR Vq hT U0 S7 Z0 cw hw V_
 have M3:=Zh (Z7 w (.cells (Qa 3 p n la (str nm) sa ss.length sc ba bl bc) 32))
 have Gi:=World.size_alloc w (.cells (Qa 3 p n la (str nm) sa ss.length sc ba bl bc) 32)
 have Ta:Hid (Below w w (w.alloc (.cells (Qa 3 p n la (str nm) sa ss.length sc ba bl bc) 32))):=Z' _ _
 go_enter Tryz.func72,Tryz.ntmps72
 go_wp2_with fail
 (with_reducible refine CW.o.mono ?_)
 rintro e w1 ⟨rfl,YZ⟩
 have VQ:Hid (Below w w w1):=Ta.o.trans (YZ.mono Zo)
 have R_:w.heap.size<w1.heap.size:=by have:=YZ.size;omega
 have Wb:=fun (j:Nat)=>(YZ.cell (p:=⟨w,j,none⟩) Uj).trans (cell_of M3.o j)
 have x0:w1.cell? ⟨w,0,none⟩=some (.int .i64 3):=Wb 0
 have x1:w1.cell? ⟨w,1,none⟩=some (.int .i64 p):=Wb 1
 have x2:w1.cell? ⟨w,2,none⟩=some (.int .i64 n):=Wb 2
 have x3:w1.cell? ⟨w,3,none⟩=some (.int .i64 la):=Wb 3
 have x4:w1.cell? ⟨w,4,none⟩=some (.string (str nm)):=Wb 4
 have x5:w1.cell? ⟨w,5,none⟩=some (.slice sa ss.length sc):=Wb 5
 have x6:w1.cell? ⟨w,6,none⟩=some (.slice ba bl bc):=Wb 6
 clear YZ Wb
 go_wp2_with (go_at_call 97;(with_reducible refine (C.o w1 (HR.o.below VQ.o)).mono ?_);rintro e w2 ⟨⟨tv,rfl,S8⟩,U3,Wx⟩)
 go_ret2
 exact Vo HF S8 U3 ((Fr.Z8 _ VQ.o).trans (Wx.mono Zo (fun _ _ h=>h)))
theorem FO (b:Nat) (T:ZN) (o:Op) (sa ba:Option Addr) (sc bl bc:Nat) (w:World) (hR:ZL w b T) (Vq:T.Small) (hT:Xz w) (U0:o.name.length<9223372036854775807) (S7:∀ x∈T.ZA,x.name.length<9223372036854775807)
  (Z0:XU w (.slice sa o.ZK.length sc) o.ZK.length (YO o.ZK)) (hw:T.X5 o=0) (V_:rX T o) (hk:o.kind=5) :
  Calls Tryz.prog 72 (Qi (some ⟨b,0,none⟩) (Jm o sa o.ZK.length sc ba bl bc)) w (U1 b T o w):=by
 have cw:=Wf b T o sa ba sc bl bc (w.alloc (.cells (Jm o sa o.ZK.length sc ba bl bc) 32)) (hR.below (Z' _ _)) (Utf8Tabs_below hT (Z' _ _)) U0 S7 (Z0.below (Z' _ _))
 have hb:=hR.lt
 have QX:=Zh Z0
 have HR:=Zh hR
 have MF:=Zh Vq
 have HF:Hid (T.Wm o=(T.Yq o.source,0)):=by show _=_;unfold ZN.Wm ZN.turns;rw [Z4 (by rw [hw];simp)];simp [hk]
 rw [hw] at cw
 have CW:=Zh cw
 have P8:=Zh V_
 obtain ⟨kd,p,n,la,nm,ss⟩:=o
 dsimp only at *
 subst hk
 have C:=Zh (fun (w1:World) (h:ZL w1 b T)=>PZ b T n w1 h Vq (V_.src Zi))
 clear hR Vq hT U0 S7 Z0 cw hw V_
 have M3:=Zh (Z7 w (.cells (Qa 5 p n la (str nm) sa ss.length sc ba bl bc) 32))
 have Gi:=World.size_alloc w (.cells (Qa 5 p n la (str nm) sa ss.length sc ba bl bc) 32)
 have Ta:Hid (Below w w (w.alloc (.cells (Qa 5 p n la (str nm) sa ss.length sc ba bl bc) 32))):=Z' _ _
 go_enter Tryz.func72,Tryz.ntmps72
 go_wp2_with fail
 (with_reducible refine CW.o.mono ?_)
 rintro e w1 ⟨rfl,YZ⟩
 have VQ:Hid (Below w w w1):=Ta.o.trans (YZ.mono Zo)
 have R_:w.heap.size<w1.heap.size:=by have:=YZ.size;omega
 have Wb:=fun (j:Nat)=>(YZ.cell (p:=⟨w,j,none⟩) Uj).trans (cell_of M3.o j)
 have x0:w1.cell? ⟨w,0,none⟩=some (.int .i64 5):=Wb 0
 have x1:w1.cell? ⟨w,1,none⟩=some (.int .i64 p):=Wb 1
 have x2:w1.cell? ⟨w,2,none⟩=some (.int .i64 n):=Wb 2
 have x3:w1.cell? ⟨w,3,none⟩=some (.int .i64 la):=Wb 3
 have x4:w1.cell? ⟨w,4,none⟩=some (.string (str nm)):=Wb 4
 have x5:w1.cell? ⟨w,5,none⟩=some (.slice sa ss.length sc):=Wb 5
 have x6:w1.cell? ⟨w,6,none⟩=some (.slice ba bl bc):=Wb 6
 clear YZ Wb
 go_wp2_with (go_at_call 98;(with_reducible refine (C.o w1 (HR.o.below VQ.o)).mono ?_);rintro e w2 ⟨⟨tv,rfl,S8⟩,U3,Wx⟩)
 go_ret2
 exact Vo HF S8 U3 ((Fr.Z8 _ VQ.o).trans (Wx.mono Zo (fun _ _ h=>h)))
theorem qB (b:Nat) (T:ZN) (o:Op) (sa ba:Option Addr) (sc bl bc:Nat) (w:World) (hR:ZL w b T) (Vq:T.Small) (hT:Xz w) (U0:o.name.length<9223372036854775807) (S7:∀ x∈T.ZA,x.name.length<9223372036854775807)
  (Z0:XU w (.slice sa o.ZK.length sc) o.ZK.length (YO o.ZK)) (hw:T.X5 o=0) (V_:rX T o) (hk:o.kind=8) :
  Calls Tryz.prog 72 (Qi (some ⟨b,0,none⟩) (Jm o sa o.ZK.length sc ba bl bc)) w (U1 b T o w):=by
 have cw:=Wf b T o sa ba sc bl bc (w.alloc (.cells (Jm o sa o.ZK.length sc ba bl bc) 32)) (hR.below (Z' _ _)) (Utf8Tabs_below hT (Z' _ _)) U0 S7 (Z0.below (Z' _ _))
 have hb:=hR.lt
 have QX:=Zh Z0
 have HR:=Zh hR
 have MF:=Zh Vq
 have HF:Hid (T.Wm o=(T.mute o.source true,0)):=by show _=_;unfold ZN.Wm ZN.turns;rw [Z4 (by rw [hw];simp)];simp [hk]
 rw [hw] at cw
 have CW:=Zh cw
 have P8:=Zh V_
 obtain ⟨kd,p,n,la,nm,ss⟩:=o
 dsimp only at *
 subst hk
 have C:=Zh (fun (w1:World) (h:ZL w1 b T)=>qD b T n w1 h Vq (V_.src Zi))
 clear hR Vq hT U0 S7 Z0 cw hw V_
 have M3:=Zh (Z7 w (.cells (Qa 8 p n la (str nm) sa ss.length sc ba bl bc) 32))
 have Gi:=World.size_alloc w (.cells (Qa 8 p n la (str nm) sa ss.length sc ba bl bc) 32)
 have Ta:Hid (Below w w (w.alloc (.cells (Qa 8 p n la (str nm) sa ss.length sc ba bl bc) 32))):=Z' _ _
 go_enter Tryz.func72,Tryz.ntmps72
 go_wp2_with fail
 (with_reducible refine CW.o.mono ?_)
 rintro e w1 ⟨rfl,YZ⟩
 have VQ:Hid (Below w w w1):=Ta.o.trans (YZ.mono Zo)
 have R_:w.heap.size<w1.heap.size:=by have:=YZ.size;omega
 have Wb:=fun (j:Nat)=>(YZ.cell (p:=⟨w,j,none⟩) Uj).trans (cell_of M3.o j)
 have x0:w1.cell? ⟨w,0,none⟩=some (.int .i64 8):=Wb 0
 exact Yx48
theorem xS (b:Nat) (T:ZN) (o:Op) (sa ba:Option Addr) (sc bl bc:Nat) (w:World) (hR:ZL w b T) (Vq:T.Small) (hT:Xz w) (U0:o.name.length<9223372036854775807) (S7:∀ x∈T.ZA,x.name.length<9223372036854775807)
  (Z0:XU w (.slice sa o.ZK.length sc) o.ZK.length (YO o.ZK)) (hw:T.X5 o=0) (V_:rX T o) (hk:o.kind=9) :
  Calls Tryz.prog 72 (Qi (some ⟨b,0,none⟩) (Jm o sa o.ZK.length sc ba bl bc)) w (U1 b T o w):=by
 have cw:=Wf b T o sa ba sc bl bc (w.alloc (.cells (Jm o sa o.ZK.length sc ba bl bc) 32)) (hR.below (Z' _ _)) (Utf8Tabs_below hT (Z' _ _)) U0 S7 (Z0.below (Z' _ _))
 have hb:=hR.lt
 have QX:=Zh Z0
 have HR:=Zh hR
 have MF:=Zh Vq
 have HF:Hid (T.Wm o=(T.mute o.source false,0)):=by show _=_;unfold ZN.Wm ZN.turns;rw [Z4 (by rw [hw];simp)];simp [hk]
 rw [hw] at cw
 have CW:=Zh cw
 have P8:=Zh V_
 obtain ⟨kd,p,n,la,nm,ss⟩:=o
 dsimp only at *
 subst hk
 have C:=Zh (fun (w1:World) (h:ZL w1 b T)=>uf b T n w1 h Vq (V_.src Zi) (V_.fE rfl))
 clear hR Vq hT U0 S7 Z0 cw hw V_
 have M3:=Zh (Z7 w (.cells (Qa 9 p n la (str nm) sa ss.length sc ba bl bc) 32))
 have Gi:=World.size_alloc w (.cells (Qa 9 p n la (str nm) sa ss.length sc ba bl bc) 32)
 have Ta:Hid (Below w w (w.alloc (.cells (Qa 9 p n la (str nm) sa ss.length sc ba bl bc) 32))):=Z' _ _
 go_enter Tryz.func72,Tryz.ntmps72
 go_wp2_with fail
 (with_reducible refine CW.o.mono ?_)
 rintro e w1 ⟨rfl,YZ⟩
 have VQ:Hid (Below w w w1):=Ta.o.trans (YZ.mono Zo)
 have R_:w.heap.size<w1.heap.size:=by have:=YZ.size;omega
 have Wb:=fun (j:Nat)=>(YZ.cell (p:=⟨w,j,none⟩) Uj).trans (cell_of M3.o j)
 have x0:w1.cell? ⟨w,0,none⟩=some (.int .i64 9):=Wb 0
 exact Yx48
theorem tZ (b:Nat) (T:ZN) (o:Op) (sa ba:Option Addr) (sc bl bc:Nat) (w:World) (hR:ZL w b T) (Vq:T.Small) (hT:Xz w) (U0:o.name.length<9223372036854775807) (S7:∀ x∈T.ZA,x.name.length<9223372036854775807)
  (Z0:XU w (.slice sa o.ZK.length sc) o.ZK.length (YO o.ZK)) (hw:T.X5 o=0) (V_:rX T o) (hk:o.kind=10) :
  Calls Tryz.prog 72 (Qi (some ⟨b,0,none⟩) (Jm o sa o.ZK.length sc ba bl bc)) w (U1 b T o w):=by
 have cw:=Wf b T o sa ba sc bl bc (w.alloc (.cells (Jm o sa o.ZK.length sc ba bl bc) 32)) (hR.below (Z' _ _)) (Utf8Tabs_below hT (Z' _ _)) U0 S7 (Z0.below (Z' _ _))
 have hb:=hR.lt
 have QX:=Zh Z0
 have HR:=Zh hR
 have MF:=Zh Vq
 have HF:Hid (T.Wm o=(T.change o 4,0)):=by show _=_;unfold ZN.Wm ZN.turns;rw [Z4 (by rw [hw];simp)];simp [hk]
 rw [hw] at cw
 have CW:=Zh cw
 have P8:=Zh V_
 obtain ⟨kd,p,n,la,nm,ss⟩:=o
 dsimp only at *
 subst hk
 have C:=Zh (fun (w1:World) (h:ZL w1 b T)=>Ck b T ⟨10,p,n,la,nm,ss⟩ sa ba ss.length sc bl bc w1 h Vq (V_.sub Zi) (V_.src Zi) (V_.change 4 (Ww ⟨rfl,rfl⟩)))
 clear hR Vq hT U0 S7 Z0 cw hw V_
 have M3:=Zh (Z7 w (.cells (Qa 10 p n la (str nm) sa ss.length sc ba bl bc) 32))
 have Gi:=World.size_alloc w (.cells (Qa 10 p n la (str nm) sa ss.length sc ba bl bc) 32)
 have Ta:Hid (Below w w (w.alloc (.cells (Qa 10 p n la (str nm) sa ss.length sc ba bl bc) 32))):=Z' _ _
 go_enter Tryz.func72,Tryz.ntmps72
 go_wp2_with fail
 (with_reducible refine CW.o.mono ?_)
 rintro e w1 ⟨rfl,YZ⟩
 have VQ:Hid (Below w w w1):=Ta.o.trans (YZ.mono Zo)
 have R_:w.heap.size<w1.heap.size:=by have:=YZ.size;omega
 have Wb:=fun (j:Nat)=>(YZ.cell (p:=⟨w,j,none⟩) Uj).trans (cell_of M3.o j)
 have x0:w1.cell? ⟨w,0,none⟩=some (.int .i64 10):=Wb 0
 exact cF
theorem xR (b:Nat) (T:ZN) (o:Op) (sa ba:Option Addr) (sc bl bc:Nat) (w:World) (hR:ZL w b T) (Vq:T.Small) (hT:Xz w) (U0:o.name.length<9223372036854775807) (S7:∀ x∈T.ZA,x.name.length<9223372036854775807)
  (Z0:XU w (.slice sa o.ZK.length sc) o.ZK.length (YO o.ZK)) (hw:T.X5 o=0) (V_:rX T o) (hk:o.kind=11) :
  Calls Tryz.prog 72 (Qi (some ⟨b,0,none⟩) (Jm o sa o.ZK.length sc ba bl bc)) w (U1 b T o w):=by
 have cw:=Wf b T o sa ba sc bl bc (w.alloc (.cells (Jm o sa o.ZK.length sc ba bl bc) 32)) (hR.below (Z' _ _)) (Utf8Tabs_below hT (Z' _ _)) U0 S7 (Z0.below (Z' _ _))
 have hb:=hR.lt
 have QX:=Zh Z0
 have HR:=Zh hR
 have MF:=Zh Vq
 have HF:Hid (T.Wm o=(T.change o 5,0)):=by show _=_;unfold ZN.Wm ZN.turns;rw [Z4 (by rw [hw];simp)];simp [hk]
 rw [hw] at cw
 have CW:=Zh cw
 have P8:=Zh V_
 obtain ⟨kd,p,n,la,nm,ss⟩:=o
 dsimp only at *
 subst hk
 have C:=Zh (fun (w1:World) (h:ZL w1 b T)=>Fp b T ⟨11,p,n,la,nm,ss⟩ sa ba ss.length sc bl bc w1 h Vq (V_.sub Zi) (V_.src Zi) (V_.change 5 (Wi (Ww ⟨rfl,rfl⟩))))
 clear hR Vq hT U0 S7 Z0 cw hw V_
 have M3:=Zh (Z7 w (.cells (Qa 11 p n la (str nm) sa ss.length sc ba bl bc) 32))
 have Gi:=World.size_alloc w (.cells (Qa 11 p n la (str nm) sa ss.length sc ba bl bc) 32)
 have Ta:Hid (Below w w (w.alloc (.cells (Qa 11 p n la (str nm) sa ss.length sc ba bl bc) 32))):=Z' _ _
 go_enter Tryz.func72,Tryz.ntmps72
 go_wp2_with fail
 (with_reducible refine CW.o.mono ?_)
 rintro e w1 ⟨rfl,YZ⟩
 have VQ:Hid (Below w w w1):=Ta.o.trans (YZ.mono Zo)
 have R_:w.heap.size<w1.heap.size:=by have:=YZ.size;omega
 have Wb:=fun (j:Nat)=>(YZ.cell (p:=⟨w,j,none⟩) Uj).trans (cell_of M3.o j)
 have x0:w1.cell? ⟨w,0,none⟩=some (.int .i64 11):=Wb 0
 exact cF
theorem qC (b:Nat) (T:ZN) (o:Op) (sa ba:Option Addr) (sc bl bc:Nat) (w:World) (hR:ZL w b T) (Vq:T.Small) (hT:Xz w) (U0:o.name.length<9223372036854775807) (S7:∀ x∈T.ZA,x.name.length<9223372036854775807)
  (Z0:XU w (.slice sa o.ZK.length sc) o.ZK.length (YO o.ZK)) (hw:T.X5 o=0) (V_:rX T o) (hk:o.kind=12) :
  Calls Tryz.prog 72 (Qi (some ⟨b,0,none⟩) (Jm o sa o.ZK.length sc ba bl bc)) w (U1 b T o w):=by
 have cw:=Wf b T o sa ba sc bl bc (w.alloc (.cells (Jm o sa o.ZK.length sc ba bl bc) 32)) (hR.below (Z' _ _)) (Utf8Tabs_below hT (Z' _ _)) U0 S7 (Z0.below (Z' _ _))
 have hb:=hR.lt
 have QX:=Zh Z0
 have HR:=Zh hR
 have MF:=Zh Vq
 have HF:Hid (T.Wm o=(T.change o 8,0)):=by show _=_;unfold ZN.Wm ZN.turns;rw [Z4 (by rw [hw];simp)];simp [hk]
 rw [hw] at cw
 have CW:=Zh cw
 have P8:=Zh V_
 obtain ⟨kd,p,n,la,nm,ss⟩:=o
 dsimp only at *
 subst hk
 have C:=Zh (fun (w1:World) (h:ZL w1 b T)=>zQ b T ⟨12,p,n,la,nm,ss⟩ sa ba ss.length sc bl bc w1 h Vq (V_.sub Zi) (V_.src Zi) (V_.change 8 (Wi (Wi ⟨rfl,rfl⟩))))
 clear hR Vq hT U0 S7 Z0 cw hw V_
 have M3:=Zh (Z7 w (.cells (Qa 12 p n la (str nm) sa ss.length sc ba bl bc) 32))
 have Gi:=World.size_alloc w (.cells (Qa 12 p n la (str nm) sa ss.length sc ba bl bc) 32)
 have Ta:Hid (Below w w (w.alloc (.cells (Qa 12 p n la (str nm) sa ss.length sc ba bl bc) 32))):=Z' _ _
 go_enter Tryz.func72,Tryz.ntmps72
 go_wp2_with fail
 (with_reducible refine CW.o.mono ?_)
 rintro e w1 ⟨rfl,YZ⟩
 have VQ:Hid (Below w w w1):=Ta.o.trans (YZ.mono Zo)
 have R_:w.heap.size<w1.heap.size:=by have:=YZ.size;omega
 have Wb:=fun (j:Nat)=>(YZ.cell (p:=⟨w,j,none⟩) Uj).trans (cell_of M3.o j)
 have x0:w1.cell? ⟨w,0,none⟩=some (.int .i64 12):=Wb 0
 exact cF
theorem IZ (b:Nat) (T:ZN) (o:Op) (sa ba:Option Addr) (sc bl bc:Nat) (w:World) (hR:ZL w b T) (Vq:T.Small) (hT:Xz w) (U0:o.name.length<9223372036854775807) (S7:∀ x∈T.ZA,x.name.length<9223372036854775807)
  (Z0:XU w (.slice sa o.ZK.length sc) o.ZK.length (YO o.ZK)) (hw:T.X5 o=0) (V_:rX T o) (hk:o.kind=7) :
  Calls Tryz.prog 72 (Qi (some ⟨b,0,none⟩) (Jm o sa o.ZK.length sc ba bl bc)) w (U1 b T o w):=by
 have cw:=Wf b T o sa ba sc bl bc (w.alloc (.cells (Jm o sa o.ZK.length sc ba bl bc) 32)) (hR.below (Z' _ _)) (Utf8Tabs_below hT (Z' _ _)) U0 S7 (Z0.below (Z' _ _))
 have hb:=hR.lt
 have QX:=Zh Z0
 have HR:=Zh hR
 have MF:=Zh Vq
 have HF:Hid (T.Wm o=(([⟨2,o.peer,o.source,0,0⟩],T.WR o.peer o.source),0)):=by show _=_;unfold ZN.Wm ZN.turns;rw [Z4 (by rw [hw];simp)];simp [hk]
 rw [hw] at cw
 have CW:=Zh cw
 have P8:=Zh V_
 obtain ⟨kd,p,n,la,nm,ss⟩:=o
 dsimp only at *
 subst hk
 have C:Hid (∀ w1,ZL w1 b T→Calls Tryz.prog 100 (Qs (some ⟨b,0,none⟩) p n) w1 fun e w'=>e = .returned (.agg (Qh 2 p n 0 0))∧ZL w' b (T.WR p n)∧Fr w1 (· = b) w1 w'):=fun w1 h=>Mh b T p n w1 h Vq (V_.sub Zi)
 clear hR Vq hT U0 S7 Z0 cw hw V_
 have M3:=Zh (Z7 w (.cells (Qa 7 p n la (str nm) sa ss.length sc ba bl bc) 32))
 have Gi:=World.size_alloc w (.cells (Qa 7 p n la (str nm) sa ss.length sc ba bl bc) 32)
 have Ta:Hid (Below w w (w.alloc (.cells (Qa 7 p n la (str nm) sa ss.length sc ba bl bc) 32))):=Z' _ _
 go_enter Tryz.func72,Tryz.ntmps72
 go_wp2_with fail
 (with_reducible refine CW.o.mono ?_)
 rintro e w1 ⟨rfl,YZ⟩
 have VQ:Hid (Below w w w1):=Ta.o.trans (YZ.mono Zo)
 have R_:w.heap.size<w1.heap.size:=by have:=YZ.size;omega
 have Wb:=fun (j:Nat)=>(YZ.cell (p:=⟨w,j,none⟩) Uj).trans (cell_of M3.o j)
 have x0:w1.cell? ⟨w,0,none⟩=some (.int .i64 7):=Wb 0
 have x1:w1.cell? ⟨w,1,none⟩=some (.int .i64 p):=Wb 1
 have x2:w1.cell? ⟨w,2,none⟩=some (.int .i64 n):=Wb 2
 have x3:w1.cell? ⟨w,3,none⟩=some (.int .i64 la):=Wb 3
 have x4:w1.cell? ⟨w,4,none⟩=some (.string (str nm)):=Wb 4
 have x5:w1.cell? ⟨w,5,none⟩=some (.slice sa ss.length sc):=Wb 5
 have x6:w1.cell? ⟨w,6,none⟩=some (.slice ba bl bc):=Wb 6
 clear YZ Wb
 go_wp2_with (go_at_call 100;(with_reducible refine (C.o w1 (HR.o.below VQ.o)).mono ?_);rintro e w2 ⟨rfl,U3,Wx⟩;have Vr:=Zh U3;have Uh:=Zh Wx;have tD:=Wx.size;clear U3 Wx)
 go_ret2
 exact Vo HF (Yu _ _ 1 _ ([⟨2,p,n,0,0⟩].flatMap Z9) Zd rfl) (Vr.o.alloc _) (((Fr.Z8 _ VQ.o).trans (Uh.o.mono Zo (fun _ _ h=>h))).alloc Zo _)
end Go.Proofs.Rm
namespace Go.Proofs.Heap
open Go Go.RowKit
section
variable {P:Program}
theorem qF {w:World} (t ty:TypeId) (base:Nat) {e:TypeId} {size bytes:Nat} (E:Elem P t e size bytes) (v:Value) (n:Nat) (xs:List Value) (YJ:w.ownsRow base e size v n xs)
  (vx:Value) (m:Nat) (news:List Value) (Z0:XU w vx m news) (hl:news.length=m*size) (h1:∀ u∈news,u.oneCell'=true)
  (Uy:(n+m)*bytes≤140737488355328) (oO:n+m≤9223372036854775807) (Sk:base≤w.heap.size) :
  ∃ v' w',(Builtin.append_ #[t,t] ty #[v,vx]).run P w = .ok v' w'∧w'.ownsRow base e size v' (n+m) (xs++news)∧w.grownBy w' v.ownBlock:=by
 obtain ⟨z,UH,mr⟩:=E.info
 obtain ⟨i,hi,hz,Sq,yS⟩:=info_parts UH
 obtain ⟨ad,cap,hv,_,_,h0,hr⟩:=Z0
 subst hv
 have wP:n+m≤maxLen:=by unfold maxLen;omega
 cases ad with
 | none=>
  exact f_
 | some ad=>
  obtain ⟨v',w',Dc,h2,h3,_⟩:=run_append_own w base t ty e i z size bytes E.ht hi hz Sq yS mr E.pos v n xs YJ ad m cap news hl (by
   intro j u hu
   rcases hr with hr|⟨b,off,N8,Po,hc⟩
   ·subst hr;simp at hu
   ·cases N8
    have hj:j<news.length:=(List.getElem?_eq_some_iff.1 hu).1
    have:=hc j hj
    have Nw:(⟨b,off,none⟩:Addr).add j=⟨b,off+j,none⟩:=by unfold Addr.add;split <;> simp_all
    rw [Nw,this]
    exact hu) h1 wP Uy Sk
  exact ⟨v',w',Dc,h2,h3⟩
theorem RA {ops:Array Oper} {o:Oper} {a:Act} {w:World} {K:Act→World→Prop} {Q:Exit→Act→World→Prop} {E':Prop} (Mq:o.guard=none) (s x:Operand) (t:TypeId)
  (ho:o.op = .call {callee:= .builtin .append,args:=#[s,x],argTypes:=#[t,t]})
  (base:Nat) {e:TypeId} {size bytes:Nat} (E:Elem P t e size bytes)
  (v:Value) (n:Nat) (xs:List Value) (hs:a.eval s=v) (YJ:w.ownsRow base e size v n xs)
  (vx:Value) (m:Nat) (news:List Value) (hx:a.eval x=vx) (Z0:XU w vx m news) (hl:news.length=m*size) (h1:∀ u∈news,u.oneCell'=true)
  (Uy:(n+m)*bytes≤140737488355328) (oO:n+m≤9223372036854775807) (Sk:base≤w.heap.size)
  (h:∀ v' w',Hid (w'.ownsRow base e size v' (n+m) (xs++news))→Hid (w.grownBy w' v.ownBlock)→K (a.put o.dst v') w') :
  if Region.wanted o (yielded ops a.tmps)=true then Oper.wp P o a w K Q else E':=by
 have hw:Region.wanted o (yielded ops a.tmps)=true:=by simp [Region.wanted,Mq]
 rw [ZQ hw]
 obtain ⟨v',w',Dc,h2,h3⟩:=qF (P:=P) t o.type base E v n xs YJ vx m news Z0 hl h1 Uy oO Sk
 unfold Oper.wp
 simp [execOp,ho,resolve,invoke,builtin,hs,hx,Dc,Result.andThen]
 exact h v' w' h2 h3
end
end Go.Proofs.Heap
namespace Go.Proofs.Rm
open Go.RowKit Go.Proofs.Heap Go.Proofs.Mem
open Go.Proofs.Od (may key Xz)
theorem Tq (w:World) (e:TypeId) (n:Nat) (xs:List Value) (hn:n≤maxLen) (v:Value) (hv:v = .slice (some ⟨w,0,none⟩) n n):Row (w.alloc (.cells xs.toArray e)) e v n xs:=by
 subst hv;exact LM w e n xs hn
theorem XH {w w':World} (hg:w.grownBy w' (Value.slice none 0 0).ownBlock):Below w w w':=(YH _ _).grown hg (Zw _) (fun k hk=>by cases hk)
theorem qA (b:Nat) (T:ZN) (o:Op) (sa ba:Option Addr) (sc bl bc:Nat) (w:World) (hR:ZL w b T) (Vq:T.Small) (hT:Xz w) (U0:o.name.length<9223372036854775807) (S7:∀ x∈T.ZA,x.name.length<9223372036854775807)
  (Z0:XU w (.slice sa o.ZK.length sc) o.ZK.length (YO o.ZK)) (hw:T.X5 o=0) (V_:rX T o) (hk:o.kind=2) :
  Calls Tryz.prog 72 (Qi (some ⟨b,0,none⟩) (Jm o sa o.ZK.length sc ba bl bc)) w (U1 b T o w):=by
 have cw:=Wf b T o sa ba sc bl bc (w.alloc (.cells (Jm o sa o.ZK.length sc ba bl bc) 32)) (hR.below (Z' _ _)) (Utf8Tabs_below hT (Z' _ _)) U0 S7 (Z0.below (Z' _ _))
 have hb:=hR.lt
 have QX:=Zh Z0
 have HR:=Zh hR
 have MF:=Zh Vq
 have HF:Hid (T.Wm o=(([],T.M7 ⟨o.peer,o.name⟩),0)):=by show _=_;unfold ZN.Wm ZN.turns;rw [Z4 (by rw [hw];simp)];simp [hk]
 rw [hw] at cw
 have CW:=Zh cw
 have P8:=Zh V_
 obtain ⟨kd,p,n,la,nm,ss⟩:=o
 dsimp only at *
 subst hk
 have Ar:=Vq.ZA
 unfold small at Ar
 obtain ⟨pv,sv,uv,Yp,XM⟩:=hR.VC
 have U6:=XM.ZA
 obtain ⟨a,cap,rfl,Pq,-,-,-⟩:=id U6
 have I4:Hid (∀ w',Below w w w'→Row w' 103 (.slice a T.ZA.length cap) T.ZA.length (T.ZA.flatMap Yz)):=fun w' h=>U6.below h
 have BP:=Zh (PD T.ZA)
 have HC:Hid (∀ w',Below w w w'→w'.cell? ⟨b,0,none⟩=some (.slice a T.ZA.length cap)∧w'.frozen? ⟨b,0,none⟩=false):=fun w' h=>⟨(h.cell (p:=⟨b,0,none⟩) hb).trans (cell_of Yp 0),(h.frozen (p:=⟨b,0,none⟩) hb).trans (hR.YC 0)⟩
 clear U6 Yp XM
 clear hR Vq hT U0 S7 Z0 cw hw V_
 have M3:=Zh (Z7 w (.cells (Qa 2 p n la (str nm) sa ss.length sc ba bl bc) 32))
 have Gi:=World.size_alloc w (.cells (Qa 2 p n la (str nm) sa ss.length sc ba bl bc) 32)
 have Ta:Hid (Below w w (w.alloc (.cells (Qa 2 p n la (str nm) sa ss.length sc ba bl bc) 32))):=Z' _ _
 go_enter Tryz.func72,Tryz.ntmps72
 go_wp2_with fail
 (with_reducible refine CW.o.mono ?_)
 rintro e w1 ⟨rfl,YZ⟩
 have VQ:Hid (Below w w w1):=Ta.o.trans (YZ.mono Zo)
 have R_:w.heap.size<w1.heap.size:=by have:=YZ.size;omega
 have Wb:=fun (j:Nat)=>(YZ.cell (p:=⟨w,j,none⟩) Uj).trans (cell_of M3.o j)
 have x0:w1.cell? ⟨w,0,none⟩=some (.int .i64 2):=Wb 0
 have x1:w1.cell? ⟨w,1,none⟩=some (.int .i64 p):=Wb 1
 have x2:w1.cell? ⟨w,2,none⟩=some (.int .i64 n):=Wb 2
 have x3:w1.cell? ⟨w,3,none⟩=some (.int .i64 la):=Wb 3
 have x4:w1.cell? ⟨w,4,none⟩=some (.string (str nm)):=Wb 4
 have x5:w1.cell? ⟨w,5,none⟩=some (.slice sa ss.length sc):=Wb 5
 have x6:w1.cell? ⟨w,6,none⟩=some (.slice ba bl bc):=Wb 6
 clear YZ Wb
 have Zz:Hid (∀ w',Below w1 w1 w'→w'.cell? ⟨b,0,none⟩=some (.slice a T.ZA.length cap)∧w'.frozen? ⟨b,0,none⟩=false∧w'.cell? ⟨w,1,none⟩=some (.int .i64 p)∧w'.cell? ⟨w,4,none⟩=some (.string (str nm))):=fun w' h=>⟨(HC.o _ (VQ.o.trans (h.mono Zo))).1,(HC.o _ (VQ.o.trans (h.mono Zo))).2,(h.cell (p:=⟨w,1,none⟩) R_).trans x1,(h.cell (p:=⟨w,4,none⟩) R_).trans x4⟩
 have SH:Hid (∀ w',Below w1 w1 w'→Row w' 103 (.slice a T.ZA.length cap) T.ZA.length (T.ZA.flatMap Yz)):=fun w' h=>I4.o _ (VQ.o.trans (h.mono Zo))
 have jy:Hid (∀ w',Below w1 w1 w'→ZL w' b T∧Fr w (· = b) w w'):=fun w' h=>⟨HR.o.below (VQ.o.trans (h.mono Zo)),Fr.Z8 _ (VQ.o.trans (h.mono Zo))⟩
 have I7:Hid (∀ w',Fr w1 (· = b) w1 w'→w'.cell? ⟨w,1,none⟩=some (.int .i64 p)∧w'.cell? ⟨w,4,none⟩=some (.string (str nm))∧Fr w1 (· = b) w1 w'):=fun w' h=>⟨(h.cell (p:=⟨w,1,none⟩) R_ Uj).trans x1,(h.cell (p:=⟨w,4,none⟩) R_ Uj).trans x4,h⟩
 have N9:Below w1 w1 w1:=YH _ _
 obtain ⟨k0,k1,-,-⟩:=Zz.o _ N9
 have hbw1:b<w1.heap.size:=by omega
 have ne1:=World.new_ne w1 ⟨b,0,none⟩ k0
 clear I4 HC
 go_upto_region 6 with fail
 refine Sd ?_
 refine wp_region_held_drew (S:=(fun w'=>w'.cell? ⟨w,1,none⟩=some (.int .i64 p)∧w'.cell? ⟨w,4,none⟩=some (.string (str nm))∧Fr w1 (· = b) w1 w')) ZB ?_ (fun _=>?_)
 ·exact Nu
 refine YA 0 (h:=YA 1 (h:=YA 2 (h:=YA 3 (h:=YA 6 (h:=YA 7 (h:=YA 8 (h:=YA 9 (h:=YA 10 (h:=?_)))))))))
 refine wpAnyH_ready (rs:=[4,11]) ZB Zi ?_
 refine AllReadyH.cons (i:=4) rfl (fun K hK=>?_) ?_
 ·go_simp
  refine hK.out _ _ ?_ (fun _=>?_)
  ·exact Nu
  clear hK K
  try simp only [Z_.pt]
  refine wpAnyH_ready (rs:=[5,11]) ZB Zi ?_
  refine AllReadyH.cons (i:=5) rfl (fun K hK=>?_) ?_
  ·(first|(go_split_ands;refine Zp Zr (.const (.slice none 0 0)) (.tmp 23) 47 Zr w1.heap.size TY (.slice none 0 0) 0 [] Zr (Ua _ _ _ _) (.slice a T.ZA.length cap) T.ZA.length (T.ZA.flatMap Yz) Zr ?_ BP.o (PE _) Zo Zo ?_ ?_;(exact SH.o _ Wd);(exact Below.size Wd);intro v1 w2 Ui O5;have UF:=XH O5.o;have Yt:Below w1 w1 w2:=Heap.Below.call Wd (Zw _) UF;obtain ⟨k2,k3,k4,k5⟩:=Zz.o _ Yt)|(go_split_ands;refine Zp Zr (.tmp 24) (.tmp 30) 47 Zr w1.heap.size TY v1 (0+T.ZA.length) ([]++T.ZA.flatMap Yz) Zr ?_ _ 1 (Q0 p (str nm)) Zr ?_ Zr (LF ⟨p,nm⟩) Zo Zo ?_ ?_;(repeat (first|with_reducible exact Ui.o|with_reducible refine Xi ?_|with_reducible refine World.ownsRow.alloc ?_ _));(repeat (first|((with_reducible refine Tq _ _ 1 (Q0 p (str nm)) Zd _ ?_);rfl)|with_reducible refine Row.drew ?_|with_reducible refine Row.below ?_ UF));(exact Below.size Wd);intro v2 w3 PU KS;have Wp:Below w1 w1 w3:=Below.grown Wd KS.o (Below.size Wd) (YL Ui.o);obtain ⟨k6,k7,k8,k9⟩:=Zz.o _ Wp;obtain ⟨va,vc,hv⟩:=WI PU.o;subst hv))
   refine hK.out _ _ ?_ (fun _=>?_)
   ·exact Nu
   clear hK K
   try simp only [Z_.pt]
   refine wpAnyH_ready (rs:=[11]) ZB Zi ?_
   refine AllReadyH.cons (i:=11) rfl (fun K hK=>?_) ?_
   ·go_simp
    exact Yx6
   exact AllReadyH.nil
  refine AllReadyH.cons (i:=11) rfl (fun K hK=>?_) ?_
  ·exact Yx27
  exact AllReadyH.nil
 refine AllReadyH.cons (i:=11) rfl (fun K hK=>?_) ?_
 ·go_simp
  refine hK.out _ _ ?_ (fun _=>?_)
  ·exact Nu
  clear hK K
  try simp only [Z_.pt]
  refine wpAnyH_ready (rs:=[4]) ZB Zi ?_
  refine AllReadyH.cons (i:=4) rfl (fun K hK=>?_) ?_
  ·exact Yx27
  exact AllReadyH.nil
 exact AllReadyH.nil
end Go.Proofs.Rm
