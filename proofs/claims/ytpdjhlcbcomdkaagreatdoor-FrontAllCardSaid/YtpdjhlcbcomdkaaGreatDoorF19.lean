/- Part of a proof. -/
import Derived.Test.YtpdjhlcbcomdkaaGreatDoorF18
set_option linter.unusedVariables false
set_option linter.unusedSimpArgs false
set_option maxRecDepth 100000
set_option maxHeartbeats 16000000
open Go Go.Q Go.Qr
namespace Go.Proofs.Rm
open Go.RowKit Go.Proofs.Heap Go.Proofs.Mem
open Go.Proofs.N_ (may key Xe)
structure uR (T:ZU) (o:Op):Prop where
 kind:2≤o.kind∧o.kind≤12
 peer:1≤o.peer
 ssl:o.kind=4→o.ZO.length≤3
 leave:o.kind=3→0≤T.Yx o.peer
 src:5≤o.kind→0≤T.Zq o.source
 Zu:o.kind=6→0≤o.Zu∧o.Zu<(T.Xb o.source).ss.length
 sub:o.kind=7∨10≤o.kind→0≤T.Zx o.peer o.source
 kj:o.kind=9→∀ x∈(T.ZN o.source false).Z8,x.source=o.source→0≤(T.ZN o.source false).Zq o.source∧0≤x.want∧x.want<((T.ZN o.source false).Xb o.source).ss.length
 change:∀ k,(o.kind=10∧k=4∨o.kind=11∧k=5∨o.kind=12∧k=8)→0≤(T.changed o k).want∧(T.changed o k).want<(T.Xb o.source).ss.length
def VA (b:Nat) (T:ZU) (o:Op) (w:World) (e:Ending) (w':World):Prop:=
 (∃ v,e = .returned (.tuple #[v,.int .i64 (T.W9 o).2])∧YM w' v (T.W9 o).1.1)∧ZT w' b (T.W9 o).1.2∧Fr w (· = b) w w'
theorem VT {b:Nat} {T T':ZU} {o:Op} {w w':World} {v:Value} {l:List YE} {c:Int} (h:Hid (T.W9 o=((l,T'),c))) (h1:YM w' v l) (h2:ZT w' b T') (h3:Fr w (· = b) w w'):VA b T o w (.returned (.tuple #[v,.int .i64 c])) w':=by
 unfold VA
 rw [h.o]
 exact ⟨⟨v,rfl,h1⟩,h2,h3⟩
theorem pz (b:Nat) (T:ZU) (o:Op) (sa ba:Option Addr) (sc bl bc:Nat) (w:World) (hR:ZT w b T) (VV:T.Small) (hT:Xe w) (Vz:o.name.length<9223372036854775807) (TI:∀ x∈T.ZK,x.name.length<9223372036854775807)
  (Z7:Yf w (.slice sa o.ZO.length sc) o.ZO.length (Zb o.ZO)) (hw:T.Yo o≠0) :
  Calls Tryz.prog 72 (Qf (some ⟨b,0,none⟩) (Ji o sa o.ZO.length sc ba bl bc)) w (VA b T o w):=by
 have cw:=WL b T o sa ba sc bl bc (w.alloc (.cells (Ji o sa o.ZO.length sc ba bl bc) 32)) (hR.below (Z' _ _)) (Utf8Tabs_below hT (Z' _ _)) Vz TI (Z7.below (Z' _ _))
 have hb:=hR.lt
 have Rq:=Zh Z7
 have HR:=Zh hR
 have M9:=Zh VV
 have HF:Hid (T.W9 o=(([],T),T.Yo o)):=by show _=_;unfold ZU.W9;rw [ZX hw]
 have CW:=Zh cw
 have hbn:(T.Yo o != 0)=true:=by rw [TF];exact hw
 have Dh:(T.Yo o == 0)=false:=by rw [WT];exact hw
 obtain ⟨kd,p,n,la,nm,ss⟩:=o
 dsimp only at *
 clear hR VV hT Vz TI Z7 cw hw
 generalize T.Yo ⟨kd,p,n,la,nm,ss⟩=wv at *
 have I5:=Zh (Z5 w (.cells (Qa kd p n la (str nm) sa ss.length sc ba bl bc) 32))
 have EY:=World.size_alloc w (.cells (Qa kd p n la (str nm) sa ss.length sc ba bl bc) 32)
 have TL:Hid (Below w w (w.alloc (.cells (Qa kd p n la (str nm) sa ss.length sc ba bl bc) 32))):=Z' _ _
 go_enter Tryz.func72,Tryz.ntmps72
 go_wp2_with fail
 (with_reducible refine CW.o.mono ?_)
 rintro e w1 ⟨rfl,Zj⟩
 have Wy:Hid (Below w w w1):=TL.o.trans (Zj.mono Zo)
 have SF:w.heap.size<w1.heap.size:=by have:=Zj.size;omega
 have WI:=fun (j:Nat)=>(Zj.cell (p:=⟨w,j,none⟩) UL).trans (cell_of I5.o j)
 have x0:w1.cell? ⟨w,0,none⟩=some (.int .i64 kd):=WI 0
 have x1:w1.cell? ⟨w,1,none⟩=some (.int .i64 p):=WI 1
 have x2:w1.cell? ⟨w,2,none⟩=some (.int .i64 n):=WI 2
 have x3:w1.cell? ⟨w,3,none⟩=some (.int .i64 la):=WI 3
 have x4:w1.cell? ⟨w,4,none⟩=some (.string (str nm)):=WI 4
 have x5:w1.cell? ⟨w,5,none⟩=some (.slice sa ss.length sc):=WI 5
 have x6:w1.cell? ⟨w,6,none⟩=some (.slice ba bl bc):=WI 6
 clear Zj WI
 go_wp2
 go_ret2
 exact VT HF (Row.nil _ _) (HR.o.below Wy.o) (Fr.Z9 _ Wy.o)
theorem wm (b:Nat) (T:ZU) (o:Op) (sa ba:Option Addr) (sc bl bc:Nat) (w:World) (hR:ZT w b T) (VV:T.Small) (hT:Xe w) (Vz:o.name.length<9223372036854775807) (TI:∀ x∈T.ZK,x.name.length<9223372036854775807)
  (Z7:Yf w (.slice sa o.ZO.length sc) o.ZO.length (Zb o.ZO)) (hw:T.Yo o=0) (VU:uR T o) (hk:o.kind=3) :
  Calls Tryz.prog 72 (Qf (some ⟨b,0,none⟩) (Ji o sa o.ZO.length sc ba bl bc)) w (VA b T o w):=by
 have cw:=WL b T o sa ba sc bl bc (w.alloc (.cells (Ji o sa o.ZO.length sc ba bl bc) 32)) (hR.below (Z' _ _)) (Utf8Tabs_below hT (Z' _ _)) Vz TI (Z7.below (Z' _ _))
 have hb:=hR.lt
 have Rq:=Zh Z7
 have HR:=Zh hR
 have M9:=Zh VV
 have HF:Hid (T.W9 o=(T.leave o.peer,0)):=by show _=_;unfold ZU.W9 ZU.turns;rw [Z6 (by rw [hw];simp)];simp [hk]
 rw [hw] at cw
 have CW:=Zh cw
 have OB:=Zh VU
 obtain ⟨kd,p,n,la,nm,ss⟩:=o
 dsimp only at *
 subst hk
 have C:=Zh (fun (w1:World) (h:ZT w1 b T)=>zM b T p w1 h VV VU.peer (VU.leave rfl))
 clear hR VV hT Vz TI Z7 cw hw VU
 have I5:=Zh (Z5 w (.cells (Qa 3 p n la (str nm) sa ss.length sc ba bl bc) 32))
 have EY:=World.size_alloc w (.cells (Qa 3 p n la (str nm) sa ss.length sc ba bl bc) 32)
 have TL:Hid (Below w w (w.alloc (.cells (Qa 3 p n la (str nm) sa ss.length sc ba bl bc) 32))):=Z' _ _
 go_enter Tryz.func72,Tryz.ntmps72
 go_wp2_with fail
 (with_reducible refine CW.o.mono ?_)
 rintro e w1 ⟨rfl,Zj⟩
 have Wy:Hid (Below w w w1):=TL.o.trans (Zj.mono Zo)
 have SF:w.heap.size<w1.heap.size:=by have:=Zj.size;omega
 have WI:=fun (j:Nat)=>(Zj.cell (p:=⟨w,j,none⟩) UL).trans (cell_of I5.o j)
 have x0:w1.cell? ⟨w,0,none⟩=some (.int .i64 3):=WI 0
 have x1:w1.cell? ⟨w,1,none⟩=some (.int .i64 p):=WI 1
 have x2:w1.cell? ⟨w,2,none⟩=some (.int .i64 n):=WI 2
 have x3:w1.cell? ⟨w,3,none⟩=some (.int .i64 la):=WI 3
 have x4:w1.cell? ⟨w,4,none⟩=some (.string (str nm)):=WI 4
 have x5:w1.cell? ⟨w,5,none⟩=some (.slice sa ss.length sc):=WI 5
 have x6:w1.cell? ⟨w,6,none⟩=some (.slice ba bl bc):=WI 6
 clear Zj WI
 go_wp2_with (go_at_call 97;(with_reducible refine (C.o w1 (HR.o.below Wy.o)).mono ?_);rintro e w2 ⟨⟨tv,rfl,S0⟩,VE,Xm⟩)
 go_ret2
 exact VT HF S0 VE ((Fr.Z9 _ Wy.o).trans (Xm.mono Zo (fun _ _ h=>h)))
theorem GX (b:Nat) (T:ZU) (o:Op) (sa ba:Option Addr) (sc bl bc:Nat) (w:World) (hR:ZT w b T) (VV:T.Small) (hT:Xe w) (Vz:o.name.length<9223372036854775807) (TI:∀ x∈T.ZK,x.name.length<9223372036854775807)
  (Z7:Yf w (.slice sa o.ZO.length sc) o.ZO.length (Zb o.ZO)) (hw:T.Yo o=0) (VU:uR T o) (hk:o.kind=5) :
  Calls Tryz.prog 72 (Qf (some ⟨b,0,none⟩) (Ji o sa o.ZO.length sc ba bl bc)) w (VA b T o w):=by
 have cw:=WL b T o sa ba sc bl bc (w.alloc (.cells (Ji o sa o.ZO.length sc ba bl bc) 32)) (hR.below (Z' _ _)) (Utf8Tabs_below hT (Z' _ _)) Vz TI (Z7.below (Z' _ _))
 have hb:=hR.lt
 have Rq:=Zh Z7
 have HR:=Zh hR
 have M9:=Zh VV
 have HF:Hid (T.W9 o=(T.YD o.source,0)):=by show _=_;unfold ZU.W9 ZU.turns;rw [Z6 (by rw [hw];simp)];simp [hk]
 rw [hw] at cw
 have CW:=Zh cw
 have OB:=Zh VU
 obtain ⟨kd,p,n,la,nm,ss⟩:=o
 dsimp only at *
 subst hk
 have C:=Zh (fun (w1:World) (h:ZT w1 b T)=>QO b T n w1 h VV (VU.src Zi))
 clear hR VV hT Vz TI Z7 cw hw VU
 have I5:=Zh (Z5 w (.cells (Qa 5 p n la (str nm) sa ss.length sc ba bl bc) 32))
 have EY:=World.size_alloc w (.cells (Qa 5 p n la (str nm) sa ss.length sc ba bl bc) 32)
 have TL:Hid (Below w w (w.alloc (.cells (Qa 5 p n la (str nm) sa ss.length sc ba bl bc) 32))):=Z' _ _
 go_enter Tryz.func72,Tryz.ntmps72
 go_wp2_with fail
 (with_reducible refine CW.o.mono ?_)
 rintro e w1 ⟨rfl,Zj⟩
 have Wy:Hid (Below w w w1):=TL.o.trans (Zj.mono Zo)
 have SF:w.heap.size<w1.heap.size:=by have:=Zj.size;omega
 have WI:=fun (j:Nat)=>(Zj.cell (p:=⟨w,j,none⟩) UL).trans (cell_of I5.o j)
 have x0:w1.cell? ⟨w,0,none⟩=some (.int .i64 5):=WI 0
 have x1:w1.cell? ⟨w,1,none⟩=some (.int .i64 p):=WI 1
 have x2:w1.cell? ⟨w,2,none⟩=some (.int .i64 n):=WI 2
 have x3:w1.cell? ⟨w,3,none⟩=some (.int .i64 la):=WI 3
 have x4:w1.cell? ⟨w,4,none⟩=some (.string (str nm)):=WI 4
 have x5:w1.cell? ⟨w,5,none⟩=some (.slice sa ss.length sc):=WI 5
 have x6:w1.cell? ⟨w,6,none⟩=some (.slice ba bl bc):=WI 6
 clear Zj WI
 go_wp2_with (go_at_call 98;(with_reducible refine (C.o w1 (HR.o.below Wy.o)).mono ?_);rintro e w2 ⟨⟨tv,rfl,S0⟩,VE,Xm⟩)
 go_ret2
 exact VT HF S0 VE ((Fr.Z9 _ Wy.o).trans (Xm.mono Zo (fun _ _ h=>h)))
theorem tH (b:Nat) (T:ZU) (o:Op) (sa ba:Option Addr) (sc bl bc:Nat) (w:World) (hR:ZT w b T) (VV:T.Small) (hT:Xe w) (Vz:o.name.length<9223372036854775807) (TI:∀ x∈T.ZK,x.name.length<9223372036854775807)
  (Z7:Yf w (.slice sa o.ZO.length sc) o.ZO.length (Zb o.ZO)) (hw:T.Yo o=0) (VU:uR T o) (hk:o.kind=8) :
  Calls Tryz.prog 72 (Qf (some ⟨b,0,none⟩) (Ji o sa o.ZO.length sc ba bl bc)) w (VA b T o w):=by
 have cw:=WL b T o sa ba sc bl bc (w.alloc (.cells (Ji o sa o.ZO.length sc ba bl bc) 32)) (hR.below (Z' _ _)) (Utf8Tabs_below hT (Z' _ _)) Vz TI (Z7.below (Z' _ _))
 have hb:=hR.lt
 have Rq:=Zh Z7
 have HR:=Zh hR
 have M9:=Zh VV
 have HF:Hid (T.W9 o=(T.mute o.source true,0)):=by show _=_;unfold ZU.W9 ZU.turns;rw [Z6 (by rw [hw];simp)];simp [hk]
 rw [hw] at cw
 have CW:=Zh cw
 have OB:=Zh VU
 obtain ⟨kd,p,n,la,nm,ss⟩:=o
 dsimp only at *
 subst hk
 have C:=Zh (fun (w1:World) (h:ZT w1 b T)=>tJ b T n w1 h VV (VU.src Zi))
 clear hR VV hT Vz TI Z7 cw hw VU
 have I5:=Zh (Z5 w (.cells (Qa 8 p n la (str nm) sa ss.length sc ba bl bc) 32))
 have EY:=World.size_alloc w (.cells (Qa 8 p n la (str nm) sa ss.length sc ba bl bc) 32)
 have TL:Hid (Below w w (w.alloc (.cells (Qa 8 p n la (str nm) sa ss.length sc ba bl bc) 32))):=Z' _ _
 go_enter Tryz.func72,Tryz.ntmps72
 go_wp2_with fail
 (with_reducible refine CW.o.mono ?_)
 rintro e w1 ⟨rfl,Zj⟩
 have Wy:Hid (Below w w w1):=TL.o.trans (Zj.mono Zo)
 have SF:w.heap.size<w1.heap.size:=by have:=Zj.size;omega
 have WI:=fun (j:Nat)=>(Zj.cell (p:=⟨w,j,none⟩) UL).trans (cell_of I5.o j)
 have x0:w1.cell? ⟨w,0,none⟩=some (.int .i64 8):=WI 0
 exact aX
theorem zH (b:Nat) (T:ZU) (o:Op) (sa ba:Option Addr) (sc bl bc:Nat) (w:World) (hR:ZT w b T) (VV:T.Small) (hT:Xe w) (Vz:o.name.length<9223372036854775807) (TI:∀ x∈T.ZK,x.name.length<9223372036854775807)
  (Z7:Yf w (.slice sa o.ZO.length sc) o.ZO.length (Zb o.ZO)) (hw:T.Yo o=0) (VU:uR T o) (hk:o.kind=9) :
  Calls Tryz.prog 72 (Qf (some ⟨b,0,none⟩) (Ji o sa o.ZO.length sc ba bl bc)) w (VA b T o w):=by
 have cw:=WL b T o sa ba sc bl bc (w.alloc (.cells (Ji o sa o.ZO.length sc ba bl bc) 32)) (hR.below (Z' _ _)) (Utf8Tabs_below hT (Z' _ _)) Vz TI (Z7.below (Z' _ _))
 have hb:=hR.lt
 have Rq:=Zh Z7
 have HR:=Zh hR
 have M9:=Zh VV
 have HF:Hid (T.W9 o=(T.mute o.source false,0)):=by show _=_;unfold ZU.W9 ZU.turns;rw [Z6 (by rw [hw];simp)];simp [hk]
 rw [hw] at cw
 have CW:=Zh cw
 have OB:=Zh VU
 obtain ⟨kd,p,n,la,nm,ss⟩:=o
 dsimp only at *
 subst hk
 have C:=Zh (fun (w1:World) (h:ZT w1 b T)=>wE b T n w1 h VV (VU.src Zi) (VU.kj rfl))
 clear hR VV hT Vz TI Z7 cw hw VU
 have I5:=Zh (Z5 w (.cells (Qa 9 p n la (str nm) sa ss.length sc ba bl bc) 32))
 have EY:=World.size_alloc w (.cells (Qa 9 p n la (str nm) sa ss.length sc ba bl bc) 32)
 have TL:Hid (Below w w (w.alloc (.cells (Qa 9 p n la (str nm) sa ss.length sc ba bl bc) 32))):=Z' _ _
 go_enter Tryz.func72,Tryz.ntmps72
 go_wp2_with fail
 (with_reducible refine CW.o.mono ?_)
 rintro e w1 ⟨rfl,Zj⟩
 have Wy:Hid (Below w w w1):=TL.o.trans (Zj.mono Zo)
 have SF:w.heap.size<w1.heap.size:=by have:=Zj.size;omega
 have WI:=fun (j:Nat)=>(Zj.cell (p:=⟨w,j,none⟩) UL).trans (cell_of I5.o j)
 have x0:w1.cell? ⟨w,0,none⟩=some (.int .i64 9):=WI 0
 exact aX
theorem wq (b:Nat) (T:ZU) (o:Op) (sa ba:Option Addr) (sc bl bc:Nat) (w:World) (hR:ZT w b T) (VV:T.Small) (hT:Xe w) (Vz:o.name.length<9223372036854775807) (TI:∀ x∈T.ZK,x.name.length<9223372036854775807)
  (Z7:Yf w (.slice sa o.ZO.length sc) o.ZO.length (Zb o.ZO)) (hw:T.Yo o=0) (VU:uR T o) (hk:o.kind=10) :
  Calls Tryz.prog 72 (Qf (some ⟨b,0,none⟩) (Ji o sa o.ZO.length sc ba bl bc)) w (VA b T o w):=by
 have cw:=WL b T o sa ba sc bl bc (w.alloc (.cells (Ji o sa o.ZO.length sc ba bl bc) 32)) (hR.below (Z' _ _)) (Utf8Tabs_below hT (Z' _ _)) Vz TI (Z7.below (Z' _ _))
 have hb:=hR.lt
 have Rq:=Zh Z7
 have HR:=Zh hR
 have M9:=Zh VV
 have HF:Hid (T.W9 o=(T.change o 4,0)):=by show _=_;unfold ZU.W9 ZU.turns;rw [Z6 (by rw [hw];simp)];simp [hk]
 rw [hw] at cw
 have CW:=Zh cw
 have OB:=Zh VU
 obtain ⟨kd,p,n,la,nm,ss⟩:=o
 dsimp only at *
 subst hk
 have C:=Zh (fun (w1:World) (h:ZT w1 b T)=>DX b T ⟨10,p,n,la,nm,ss⟩ sa ba ss.length sc bl bc w1 h VV (VU.sub Zi) (VU.src Zi) (VU.change 4 (Wc ⟨rfl,rfl⟩)))
 clear hR VV hT Vz TI Z7 cw hw VU
 have I5:=Zh (Z5 w (.cells (Qa 10 p n la (str nm) sa ss.length sc ba bl bc) 32))
 have EY:=World.size_alloc w (.cells (Qa 10 p n la (str nm) sa ss.length sc ba bl bc) 32)
 have TL:Hid (Below w w (w.alloc (.cells (Qa 10 p n la (str nm) sa ss.length sc ba bl bc) 32))):=Z' _ _
 go_enter Tryz.func72,Tryz.ntmps72
 go_wp2_with fail
 (with_reducible refine CW.o.mono ?_)
 rintro e w1 ⟨rfl,Zj⟩
 have Wy:Hid (Below w w w1):=TL.o.trans (Zj.mono Zo)
 have SF:w.heap.size<w1.heap.size:=by have:=Zj.size;omega
 have WI:=fun (j:Nat)=>(Zj.cell (p:=⟨w,j,none⟩) UL).trans (cell_of I5.o j)
 have x0:w1.cell? ⟨w,0,none⟩=some (.int .i64 10):=WI 0
 exact gW
theorem zG (b:Nat) (T:ZU) (o:Op) (sa ba:Option Addr) (sc bl bc:Nat) (w:World) (hR:ZT w b T) (VV:T.Small) (hT:Xe w) (Vz:o.name.length<9223372036854775807) (TI:∀ x∈T.ZK,x.name.length<9223372036854775807)
  (Z7:Yf w (.slice sa o.ZO.length sc) o.ZO.length (Zb o.ZO)) (hw:T.Yo o=0) (VU:uR T o) (hk:o.kind=11) :
  Calls Tryz.prog 72 (Qf (some ⟨b,0,none⟩) (Ji o sa o.ZO.length sc ba bl bc)) w (VA b T o w):=by
 have cw:=WL b T o sa ba sc bl bc (w.alloc (.cells (Ji o sa o.ZO.length sc ba bl bc) 32)) (hR.below (Z' _ _)) (Utf8Tabs_below hT (Z' _ _)) Vz TI (Z7.below (Z' _ _))
 have hb:=hR.lt
 have Rq:=Zh Z7
 have HR:=Zh hR
 have M9:=Zh VV
 have HF:Hid (T.W9 o=(T.change o 5,0)):=by show _=_;unfold ZU.W9 ZU.turns;rw [Z6 (by rw [hw];simp)];simp [hk]
 rw [hw] at cw
 have CW:=Zh cw
 have OB:=Zh VU
 obtain ⟨kd,p,n,la,nm,ss⟩:=o
 dsimp only at *
 subst hk
 have C:=Zh (fun (w1:World) (h:ZT w1 b T)=>Gu b T ⟨11,p,n,la,nm,ss⟩ sa ba ss.length sc bl bc w1 h VV (VU.sub Zi) (VU.src Zi) (VU.change 5 (Wj (Wc ⟨rfl,rfl⟩))))
 clear hR VV hT Vz TI Z7 cw hw VU
 have I5:=Zh (Z5 w (.cells (Qa 11 p n la (str nm) sa ss.length sc ba bl bc) 32))
 have EY:=World.size_alloc w (.cells (Qa 11 p n la (str nm) sa ss.length sc ba bl bc) 32)
 have TL:Hid (Below w w (w.alloc (.cells (Qa 11 p n la (str nm) sa ss.length sc ba bl bc) 32))):=Z' _ _
 go_enter Tryz.func72,Tryz.ntmps72
 go_wp2_with fail
 (with_reducible refine CW.o.mono ?_)
 rintro e w1 ⟨rfl,Zj⟩
 have Wy:Hid (Below w w w1):=TL.o.trans (Zj.mono Zo)
 have SF:w.heap.size<w1.heap.size:=by have:=Zj.size;omega
 have WI:=fun (j:Nat)=>(Zj.cell (p:=⟨w,j,none⟩) UL).trans (cell_of I5.o j)
 have x0:w1.cell? ⟨w,0,none⟩=some (.int .i64 11):=WI 0
 exact gW
theorem tI (b:Nat) (T:ZU) (o:Op) (sa ba:Option Addr) (sc bl bc:Nat) (w:World) (hR:ZT w b T) (VV:T.Small) (hT:Xe w) (Vz:o.name.length<9223372036854775807) (TI:∀ x∈T.ZK,x.name.length<9223372036854775807)
  (Z7:Yf w (.slice sa o.ZO.length sc) o.ZO.length (Zb o.ZO)) (hw:T.Yo o=0) (VU:uR T o) (hk:o.kind=12) :
  Calls Tryz.prog 72 (Qf (some ⟨b,0,none⟩) (Ji o sa o.ZO.length sc ba bl bc)) w (VA b T o w):=by
 have cw:=WL b T o sa ba sc bl bc (w.alloc (.cells (Ji o sa o.ZO.length sc ba bl bc) 32)) (hR.below (Z' _ _)) (Utf8Tabs_below hT (Z' _ _)) Vz TI (Z7.below (Z' _ _))
 have hb:=hR.lt
 have Rq:=Zh Z7
 have HR:=Zh hR
 have M9:=Zh VV
 have HF:Hid (T.W9 o=(T.change o 8,0)):=by show _=_;unfold ZU.W9 ZU.turns;rw [Z6 (by rw [hw];simp)];simp [hk]
 rw [hw] at cw
 have CW:=Zh cw
 have OB:=Zh VU
 obtain ⟨kd,p,n,la,nm,ss⟩:=o
 dsimp only at *
 subst hk
 have C:=Zh (fun (w1:World) (h:ZT w1 b T)=>A8 b T ⟨12,p,n,la,nm,ss⟩ sa ba ss.length sc bl bc w1 h VV (VU.sub Zi) (VU.src Zi) (VU.change 8 (Wj (Wj ⟨rfl,rfl⟩))))
 clear hR VV hT Vz TI Z7 cw hw VU
 have I5:=Zh (Z5 w (.cells (Qa 12 p n la (str nm) sa ss.length sc ba bl bc) 32))
 have EY:=World.size_alloc w (.cells (Qa 12 p n la (str nm) sa ss.length sc ba bl bc) 32)
 have TL:Hid (Below w w (w.alloc (.cells (Qa 12 p n la (str nm) sa ss.length sc ba bl bc) 32))):=Z' _ _
 go_enter Tryz.func72,Tryz.ntmps72
 go_wp2_with fail
 (with_reducible refine CW.o.mono ?_)
 rintro e w1 ⟨rfl,Zj⟩
 have Wy:Hid (Below w w w1):=TL.o.trans (Zj.mono Zo)
 have SF:w.heap.size<w1.heap.size:=by have:=Zj.size;omega
 have WI:=fun (j:Nat)=>(Zj.cell (p:=⟨w,j,none⟩) UL).trans (cell_of I5.o j)
 have x0:w1.cell? ⟨w,0,none⟩=some (.int .i64 12):=WI 0
 exact gW
theorem JR (b:Nat) (T:ZU) (o:Op) (sa ba:Option Addr) (sc bl bc:Nat) (w:World) (hR:ZT w b T) (VV:T.Small) (hT:Xe w) (Vz:o.name.length<9223372036854775807) (TI:∀ x∈T.ZK,x.name.length<9223372036854775807)
  (Z7:Yf w (.slice sa o.ZO.length sc) o.ZO.length (Zb o.ZO)) (hw:T.Yo o=0) (VU:uR T o) (hk:o.kind=7) :
  Calls Tryz.prog 72 (Qf (some ⟨b,0,none⟩) (Ji o sa o.ZO.length sc ba bl bc)) w (VA b T o w):=by
 have cw:=WL b T o sa ba sc bl bc (w.alloc (.cells (Ji o sa o.ZO.length sc ba bl bc) 32)) (hR.below (Z' _ _)) (Utf8Tabs_below hT (Z' _ _)) Vz TI (Z7.below (Z' _ _))
 have hb:=hR.lt
 have Rq:=Zh Z7
 have HR:=Zh hR
 have M9:=Zh VV
 have HF:Hid (T.W9 o=(([⟨2,o.peer,o.source,0,0⟩],T.Xk o.peer o.source),0)):=by show _=_;unfold ZU.W9 ZU.turns;rw [Z6 (by rw [hw];simp)];simp [hk]
 rw [hw] at cw
 have CW:=Zh cw
 have OB:=Zh VU
 obtain ⟨kd,p,n,la,nm,ss⟩:=o
 dsimp only at *
 subst hk
 have C:Hid (∀ w1,ZT w1 b T→Calls Tryz.prog 100 (Qs (some ⟨b,0,none⟩) p n) w1 fun e w'=>e = .returned (.agg (Qi 2 p n 0 0))∧ZT w' b (T.Xk p n)∧Fr w1 (· = b) w1 w'):=fun w1 h=>MH b T p n w1 h VV (VU.sub Zi)
 clear hR VV hT Vz TI Z7 cw hw VU
 have I5:=Zh (Z5 w (.cells (Qa 7 p n la (str nm) sa ss.length sc ba bl bc) 32))
 have EY:=World.size_alloc w (.cells (Qa 7 p n la (str nm) sa ss.length sc ba bl bc) 32)
 have TL:Hid (Below w w (w.alloc (.cells (Qa 7 p n la (str nm) sa ss.length sc ba bl bc) 32))):=Z' _ _
 go_enter Tryz.func72,Tryz.ntmps72
 go_wp2_with fail
 (with_reducible refine CW.o.mono ?_)
 rintro e w1 ⟨rfl,Zj⟩
 have Wy:Hid (Below w w w1):=TL.o.trans (Zj.mono Zo)
 have SF:w.heap.size<w1.heap.size:=by have:=Zj.size;omega
 have WI:=fun (j:Nat)=>(Zj.cell (p:=⟨w,j,none⟩) UL).trans (cell_of I5.o j)
 have x0:w1.cell? ⟨w,0,none⟩=some (.int .i64 7):=WI 0
 have x1:w1.cell? ⟨w,1,none⟩=some (.int .i64 p):=WI 1
 have x2:w1.cell? ⟨w,2,none⟩=some (.int .i64 n):=WI 2
 have x3:w1.cell? ⟨w,3,none⟩=some (.int .i64 la):=WI 3
 have x4:w1.cell? ⟨w,4,none⟩=some (.string (str nm)):=WI 4
 have x5:w1.cell? ⟨w,5,none⟩=some (.slice sa ss.length sc):=WI 5
 have x6:w1.cell? ⟨w,6,none⟩=some (.slice ba bl bc):=WI 6
 clear Zj WI
 go_wp2_with (go_at_call 100;(with_reducible refine (C.o w1 (HR.o.below Wy.o)).mono ?_);rintro e w2 ⟨rfl,VE,Xm⟩;have VW:=Zh VE;have U5:=Zh Xm;have vJ:=Xm.size;clear VE Xm)
 go_ret2
 exact VT HF (YL _ _ 1 _ ([⟨2,p,n,0,0⟩].flatMap Z_) Zd rfl) (VW.o.alloc _) (((Fr.Z9 _ Wy.o).trans (U5.o.mono Zo (fun _ _ h=>h))).alloc Zo _)
end Go.Proofs.Rm
namespace Go.Proofs.Heap
open Go Go.RowKit
section
variable {P:Program}
theorem tL {w:World} (t ty:TypeId) (base:Nat) {e:TypeId} {size bytes:Nat} (E:Elem P t e size bytes) (v:Value) (n:Nat) (xs:List Value) (YO:w.ownsRow base e size v n xs)
  (vx:Value) (m:Nat) (news:List Value) (Z7:Yf w vx m news) (hl:news.length=m*size) (h1:∀ u∈news,u.oneCell'=true)
  (Rv:(n+m)*bytes≤140737488355328) (iJ:n+m≤9223372036854775807) (PO:base≤w.heap.size) :
  ∃ v' w',(Builtin.append_ #[t,t] ty #[v,vx]).run P w = .ok v' w'∧w'.ownsRow base e size v' (n+m) (xs++news)∧w.grownBy w' v.ownBlock:=by
 obtain ⟨z,UQ,oZ⟩:=E.info
 obtain ⟨i,hi,hz,Rx,oC⟩:=info_parts UQ
 obtain ⟨ad,cap,hv,_,_,h0,hr⟩:=Z7
 subst hv
 have yQ:n+m≤maxLen:=by unfold maxLen;omega
 cases ad with
 | none=>
  exact kG
 | some ad=>
  obtain ⟨v',w',y9,h2,h3,_⟩:=run_append_own w base t ty e i z size bytes E.ht hi hz Rx oC oZ E.pos v n xs YO ad m cap news hl (by
   intro j u hu
   rcases hr with hr|⟨b,off,Od,Rj,hc⟩
   ·subst hr;simp at hu
   ·cases Od
    have hj:j<news.length:=(List.getElem?_eq_some_iff.1 hu).1
    have:=hc j hj
    have MO:(⟨b,off,none⟩:Addr).add j=⟨b,off+j,none⟩:=by unfold Addr.add;split <;> simp_all
    rw [MO,this]
    exact hu) h1 yQ Rv PO
  exact ⟨v',w',y9,h2,h3⟩
theorem RZ {ops:Array Oper} {o:Oper} {a:Act} {w:World} {K:Act→World→Prop} {Q:Exit→Act→World→Prop} {E':Prop} (Ld:o.guard=none) (s x:Operand) (t:TypeId)
  (ho:o.op = .call {callee:= .builtin .append,args:=#[s,x],argTypes:=#[t,t]})
  (base:Nat) {e:TypeId} {size bytes:Nat} (E:Elem P t e size bytes)
  (v:Value) (n:Nat) (xs:List Value) (hs:a.eval s=v) (YO:w.ownsRow base e size v n xs)
  (vx:Value) (m:Nat) (news:List Value) (hx:a.eval x=vx) (Z7:Yf w vx m news) (hl:news.length=m*size) (h1:∀ u∈news,u.oneCell'=true)
  (Rv:(n+m)*bytes≤140737488355328) (iJ:n+m≤9223372036854775807) (PO:base≤w.heap.size)
  (h:∀ v' w',Hid (w'.ownsRow base e size v' (n+m) (xs++news))→Hid (w.grownBy w' v.ownBlock)→K (a.put o.dst v') w') :
  if Region.wanted o (yielded ops a.tmps)=true then Oper.wp P o a w K Q else E':=by
 have hw:Region.wanted o (yielded ops a.tmps)=true:=by simp [Region.wanted,Ld]
 rw [ZX hw]
 obtain ⟨v',w',y9,h2,h3⟩:=tL (P:=P) t o.type base E v n xs YO vx m news Z7 hl h1 Rv iJ PO
 unfold Oper.wp
 simp [execOp,ho,resolve,invoke,builtin,hs,hx,y9,Result.andThen]
 exact h v' w' h2 h3
end
end Go.Proofs.Heap
namespace Go.Proofs.Rm
open Go.RowKit Go.Proofs.Heap Go.Proofs.Mem
open Go.Proofs.N_ (may key Xe)
theorem Wa (w:World) (e:TypeId) (n:Nat) (xs:List Value) (hn:n≤maxLen) (v:Value) (hv:v = .slice (some ⟨w,0,none⟩) n n):Row (w.alloc (.cells xs.toArray e)) e v n xs:=by
 subst hv;exact Mh w e n xs hn
theorem XW {w w':World} (hg:w.grownBy w' (Value.slice none 0 0).ownBlock):Below w w w':=(YG _ _).grown hg (ZB _) (fun k hk=>by cases hk)
theorem tG (b:Nat) (T:ZU) (o:Op) (sa ba:Option Addr) (sc bl bc:Nat) (w:World) (hR:ZT w b T) (VV:T.Small) (hT:Xe w) (Vz:o.name.length<9223372036854775807) (TI:∀ x∈T.ZK,x.name.length<9223372036854775807)
  (Z7:Yf w (.slice sa o.ZO.length sc) o.ZO.length (Zb o.ZO)) (hw:T.Yo o=0) (VU:uR T o) (hk:o.kind=2) :
  Calls Tryz.prog 72 (Qf (some ⟨b,0,none⟩) (Ji o sa o.ZO.length sc ba bl bc)) w (VA b T o w):=by
 have cw:=WL b T o sa ba sc bl bc (w.alloc (.cells (Ji o sa o.ZO.length sc ba bl bc) 32)) (hR.below (Z' _ _)) (Utf8Tabs_below hT (Z' _ _)) Vz TI (Z7.below (Z' _ _))
 have hb:=hR.lt
 have Rq:=Zh Z7
 have HR:=Zh hR
 have M9:=Zh VV
 have HF:Hid (T.W9 o=(([],T.R_ ⟨o.peer,o.name⟩),0)):=by show _=_;unfold ZU.W9 ZU.turns;rw [Z6 (by rw [hw];simp)];simp [hk]
 rw [hw] at cw
 have CW:=Zh cw
 have OB:=Zh VU
 obtain ⟨kd,p,n,la,nm,ss⟩:=o
 dsimp only at *
 subst hk
 have BA:=VV.ZK
 unfold small at BA
 obtain ⟨pv,sv,uv,YJ,X_⟩:=hR.Wh
 have Wp:=X_.ZK
 obtain ⟨a,cap,rfl,PV,-,-,-⟩:=id Wp
 have JX:Hid (∀ w',Below w w w'→Row w' 103 (.slice a T.ZK.length cap) T.ZK.length (T.ZK.flatMap Zf)):=fun w' h=>Wp.below h
 have Dx:=Zh (P9 T.ZK)
 have HC:Hid (∀ w',Below w w w'→w'.cell? ⟨b,0,none⟩=some (.slice a T.ZK.length cap)∧w'.frozen? ⟨b,0,none⟩=false):=fun w' h=>⟨(h.cell (p:=⟨b,0,none⟩) hb).trans (cell_of YJ 0),(h.frozen (p:=⟨b,0,none⟩) hb).trans (hR.YS 0)⟩
 clear Wp YJ X_
 clear hR VV hT Vz TI Z7 cw hw VU
 have I5:=Zh (Z5 w (.cells (Qa 2 p n la (str nm) sa ss.length sc ba bl bc) 32))
 have EY:=World.size_alloc w (.cells (Qa 2 p n la (str nm) sa ss.length sc ba bl bc) 32)
 have TL:Hid (Below w w (w.alloc (.cells (Qa 2 p n la (str nm) sa ss.length sc ba bl bc) 32))):=Z' _ _
 go_enter Tryz.func72,Tryz.ntmps72
 go_wp2_with fail
 (with_reducible refine CW.o.mono ?_)
 rintro e w1 ⟨rfl,Zj⟩
 have Wy:Hid (Below w w w1):=TL.o.trans (Zj.mono Zo)
 have SF:w.heap.size<w1.heap.size:=by have:=Zj.size;omega
 have WI:=fun (j:Nat)=>(Zj.cell (p:=⟨w,j,none⟩) UL).trans (cell_of I5.o j)
 have x0:w1.cell? ⟨w,0,none⟩=some (.int .i64 2):=WI 0
 have x1:w1.cell? ⟨w,1,none⟩=some (.int .i64 p):=WI 1
 have x2:w1.cell? ⟨w,2,none⟩=some (.int .i64 n):=WI 2
 have x3:w1.cell? ⟨w,3,none⟩=some (.int .i64 la):=WI 3
 have x4:w1.cell? ⟨w,4,none⟩=some (.string (str nm)):=WI 4
 have x5:w1.cell? ⟨w,5,none⟩=some (.slice sa ss.length sc):=WI 5
 have x6:w1.cell? ⟨w,6,none⟩=some (.slice ba bl bc):=WI 6
 clear Zj WI
 have ZC:Hid (∀ w',Below w1 w1 w'→w'.cell? ⟨b,0,none⟩=some (.slice a T.ZK.length cap)∧w'.frozen? ⟨b,0,none⟩=false∧w'.cell? ⟨w,1,none⟩=some (.int .i64 p)∧w'.cell? ⟨w,4,none⟩=some (.string (str nm))):=fun w' h=>⟨(HC.o _ (Wy.o.trans (h.mono Zo))).1,(HC.o _ (Wy.o.trans (h.mono Zo))).2,(h.cell (p:=⟨w,1,none⟩) SF).trans x1,(h.cell (p:=⟨w,4,none⟩) SF).trans x4⟩
 have Tf:Hid (∀ w',Below w1 w1 w'→Row w' 103 (.slice a T.ZK.length cap) T.ZK.length (T.ZK.flatMap Zf)):=fun w' h=>JX.o _ (Wy.o.trans (h.mono Zo))
 have mW:Hid (∀ w',Below w1 w1 w'→ZT w' b T∧Fr w (· = b) w w'):=fun w' h=>⟨HR.o.below (Wy.o.trans (h.mono Zo)),Fr.Z9 _ (Wy.o.trans (h.mono Zo))⟩
 have J0:Hid (∀ w',Fr w1 (· = b) w1 w'→w'.cell? ⟨w,1,none⟩=some (.int .i64 p)∧w'.cell? ⟨w,4,none⟩=some (.string (str nm))∧Fr w1 (· = b) w1 w'):=fun w' h=>⟨(h.cell (p:=⟨w,1,none⟩) SF UL).trans x1,(h.cell (p:=⟨w,4,none⟩) SF UL).trans x4,h⟩
 have Ri:Below w1 w1 w1:=YG _ _
 obtain ⟨k0,k1,-,-⟩:=ZC.o _ Ri
 have cf:b<w1.heap.size:=by omega
 have fG:=World.new_ne w1 ⟨b,0,none⟩ k0
 clear JX HC
 go_upto_region 6 with fail
 refine QN ?_
 refine wp_region_held_drew (S:=(fun w'=>w'.cell? ⟨w,1,none⟩=some (.int .i64 p)∧w'.cell? ⟨w,4,none⟩=some (.string (str nm))∧Fr w1 (· = b) w1 w')) Zg ?_ (fun _=>?_)
 ·exact Oa
 refine YA 0 (h:=YA 1 (h:=YA 2 (h:=YA 3 (h:=YA 6 (h:=YA 7 (h:=YA 8 (h:=YA 9 (h:=YA 10 (h:=?_)))))))))
 refine wpAnyH_ready (rs:=[4,11]) Zg Zi ?_
 refine AllReadyH.cons (i:=4) rfl (fun K hK=>?_) ?_
 ·go_simp
  refine hK.out _ _ ?_ (fun _=>?_)
  ·exact Oa
  clear hK K
  try simp only [Z3.pt]
  refine wpAnyH_ready (rs:=[5,11]) Zg Zi ?_
  refine AllReadyH.cons (i:=5) rfl (fun K hK=>?_) ?_
  ·(first|(go_split_ands;refine Zw Zr (.const (.slice none 0 0)) (.tmp 23) 47 Zr w1.heap.size Vv (.slice none 0 0) 0 [] Zr (Us _ _ _ _) (.slice a T.ZK.length cap) T.ZK.length (T.ZK.flatMap Zf) Zr ?_ Dx.o (P_ _) Zo Zo ?_ ?_;(exact Tf.o _ WK);(exact Below.size WK);intro v1 w2 UK Pt;have Vb:=XW Pt.o;have YF:Below w1 w1 w2:=Heap.Below.call WK (ZB _) Vb;obtain ⟨k2,k3,k4,k5⟩:=ZC.o _ YF)|(go_split_ands;refine Zw Zr (.tmp 24) (.tmp 30) 47 Zr w1.heap.size Vv v1 (0+T.ZK.length) ([]++T.ZK.flatMap Zf) Zr ?_ _ 1 (Qw p (str nm)) Zr ?_ Zr (P8 ⟨p,nm⟩) Zo Zo ?_ ?_;(repeat (first|with_reducible exact UK.o|with_reducible refine XH ?_|with_reducible refine World.ownsRow.alloc ?_ _));(repeat (first|((with_reducible refine Wa _ _ 1 (Qw p (str nm)) Zd _ ?_);rfl)|with_reducible refine Row.drew ?_|with_reducible refine Row.below ?_ Vb));(exact Below.size WK);intro v2 w3 QJ Li;have WX:Below w1 w1 w3:=Below.grown WK Li.o (Below.size WK) (Yw UK.o);obtain ⟨k6,k7,k8,k9⟩:=ZC.o _ WX;obtain ⟨va,vc,hv⟩:=Yz QJ.o;subst hv))
   refine hK.out _ _ ?_ (fun _=>?_)
   ·exact Oa
   clear hK K
   try simp only [Z3.pt]
   refine wpAnyH_ready (rs:=[11]) Zg Zi ?_
   refine AllReadyH.cons (i:=11) rfl (fun K hK=>?_) ?_
   ·go_simp
    exact Yx6
   exact AllReadyH.nil
  refine AllReadyH.cons (i:=11) rfl (fun K hK=>?_) ?_
  ·exact aP
  exact AllReadyH.nil
 refine AllReadyH.cons (i:=11) rfl (fun K hK=>?_) ?_
 ·go_simp
  refine hK.out _ _ ?_ (fun _=>?_)
  ·exact Oa
  clear hK K
  try simp only [Z3.pt]
  refine wpAnyH_ready (rs:=[4]) Zg Zi ?_
  refine AllReadyH.cons (i:=4) rfl (fun K hK=>?_) ?_
  ·exact aP
  exact AllReadyH.nil
 exact AllReadyH.nil
end Go.Proofs.Rm
