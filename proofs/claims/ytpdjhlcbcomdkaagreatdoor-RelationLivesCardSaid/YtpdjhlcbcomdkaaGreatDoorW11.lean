/- Part of a proof. -/
import Derived.Test.YtpdjhlcbcomdkaaGreatDoorW07
import Derived.Test.YtpdjhlcbcomdkaaGreatDoorW10
set_option linter.unusedVariables false
set_option linter.unusedSimpArgs false
set_option maxRecDepth 100000
set_option maxHeartbeats 16000000
open Go Go.Q Go.Qr
namespace Go.Proofs.Rm
open Go.RowKit Go.Proofs.Heap Go.Proofs.Mem
theorem slice_inj {a b:Option Addr} {n m c d:Nat} (h:Value.slice a n c = .slice b m d):a=b∧c=d:=by
 injection h with h1 h2 h3
 exact ⟨h1,h3⟩
theorem vF {w:World} {a:Option Addr} {c:Nat} {l:List Vk} (h:Row w 103 (.slice a l.length c) l.length (l.flatMap Yz)) (hl:0<l.length):∃ g off,a=some ⟨g,off,none⟩∧∀ (i:Nat) (x:Vk),l[i]?=some x →
  w.cell? ⟨g,off+i*2,none⟩=some (.int .i64 x.num)∧w.cell? ⟨g,off+i*2+1,none⟩=some (.string (str x.name)):=by
 exact Yx136
theorem O0 {w:World} {a:Option Addr} {c:Nat} {l:List Vj} (h:Row w 105 (.slice a l.length c) l.length (l.flatMap Zv)) (hl:0<l.length):∃ g off,a=some ⟨g,off,none⟩∧∀ (i:Nat) (x:Vj),l[i]?=some x →
  w.cell? ⟨g,off+i*4,none⟩=some (.int .i64 x.peer)∧w.cell? ⟨g,off+i*4+1,none⟩=some (.int .i64 x.source)∧w.cell? ⟨g,off+i*4+2,none⟩=some (.int .i64 x.want)∧w.cell? ⟨g,off+i*4+3,none⟩=some (.bool x.ZR):=by
 obtain ⟨g,off,cap,h1,_,_,_,h5⟩:=xZ Zv 4 (fun _=>rfl) Zo h hl
 exact ⟨g,off,(slice_inj h1).1,fun i x hx=>⟨h5 i x hx 0 Zo,h5 i x hx 1 Zo,h5 i x hx 2 Zo,h5 i x hx 3 Zo⟩⟩
theorem SF {w:World} {a:Option Addr} {c:Nat} {l:List (Wl × Value)} (h:Row w 108 (.slice a l.length c) l.length (l.flatMap Zt)) (hl:0<l.length):∃ g off,a=some ⟨g,off,none⟩∧∀ (i:Nat) (x:Wl × Value),l[i]?=some x →
  w.cell? ⟨g,off+i*4,none⟩=some (.int .i64 x.1.num)∧w.cell? ⟨g,off+i*4+1,none⟩=some (.int .i64 x.1.own)∧w.cell? ⟨g,off+i*4+2,none⟩=some x.2∧w.cell? ⟨g,off+i*4+3,none⟩=some (.bool x.1.ZG):=by
 obtain ⟨g,off,cap,h1,_,_,_,h5⟩:=xZ Zt 4 (fun _=>rfl) Zo h hl
 exact ⟨g,off,(slice_inj h1).1,fun i x hx=>⟨h5 i x hx 0 Zo,h5 i x hx 1 Zo,h5 i x hx 2 Zo,h5 i x hx 3 Zo⟩⟩
open Go.Proofs.Od (may key Xz)
theorem DA {α:Type} (f:α→List Value) (k:Nat) (hk:∀ x,(f x).length=k) (iE:0<k) {w:World} {v:Value} {n:Nat} {l:List α} (h:XU w v n (l.flatMap f)) (hl:0<l.length) :
  ∃ g off cap,v = .slice (some ⟨g,off,none⟩) n cap∧n≤cap∧cap≤maxLen∧g<w.heap.size∧∀ (i:Nat) (x:α),l[i]?=some x→∀ j,j<k→w.cell? ⟨g,off+i*k+j,none⟩=(f x)[j]?:=by
 exact Yx80
structure Wa (R:Room):Prop where
 short:∀ n,(R.src n).ss.length≤1000000
theorem NJ {R:Room} (h:Wa R) (n:Nat) (x:Src) (hx:x.ss.length≤1000000):Wa (R.Y6 n x):=⟨fun m=>by rw [WA];split;exact hx;exact h.short m⟩
theorem E4 {R:Room} (h:Wa R) (n:Nat):Wa (gone R n).2:=⟨fun m=>by rw [Pm];split;exact Tw _;exact h.short m⟩
theorem yj {R:Room} (h:Wa R) (p:Nat):Wa (leave R p).2:=by
 have h1:Wa (ZM p R 9).2:=⟨fun m=>by rw [(RJ R p 9).2];exact h.short m⟩
 exact ⟨fun m=>by show ((ZI (ZM p R 9).2 p 9).2.src m).ss.length≤_;rw [OO];split;exact Tw _;exact h1.short m⟩
theorem yl {R:Room} {o:Op} (h:Wa R) (ok:Ok R o) (sv:Value):Wa (turns R o sv).2:=by
 unfold turns
 dsimp only
 by_cases k2:o.kind=2
 ·rw [ZQ k2];exact ⟨h.short⟩
 rw [Z4 k2]
 by_cases k3:o.kind=3
 ·rw [ZQ k3];exact yj h _
 rw [Z4 k3]
 by_cases k4:o.kind=4
 ·rw [ZQ k4];exact NJ h _ _ (by have:=(Hl (ok.Ds k4)).2.1;show o.ZK.length≤_;omega)
 rw [Z4 k4]
 by_cases k5:o.kind=5
 ·rw [ZQ k5];exact E4 h _
 rw [Z4 k5]
 by_cases k6:o.kind=6
 ·rw [ZQ k6];exact ⟨h.short⟩
 rw [Z4 k6]
 by_cases k7:o.kind=7
 ·rw [ZQ k7];exact ⟨h.short⟩
 rw [Z4 k7]
 by_cases k8:o.kind=8
 ·rw [ZQ k8];exact NJ h _ _ (h.short _)
 rw [Z4 k8]
 by_cases k9:o.kind=9
 ·rw [ZQ k9];exact NJ h _ _ (h.short _)
 rw [Z4 k9]
 split
 ·exact ⟨h.short⟩
 split
 ·exact ⟨h.short⟩
 split
 ·exact ⟨h.short⟩
 ·exact h
theorem Hv {R:Room} (h:Wa R) (o:Op) (sv:Value):Wa (Wm R o sv).1.2:=by
 unfold Wm
 by_cases h0:X5 R o=0
 ·rw [Z4 (by simpa using h0)];exact yl h (PT h0) sv
 ·rw [ZQ h0];exact h
theorem TQ:Wa empty:=⟨fun _=>Tw _⟩
theorem NI {R:Room} (h:Wa R) (p x:Int):Wa (YS R p x).1.2:=by
 unfold YS
 split
 ·exact h
 ·exact E4 h _
end Go.Proofs.Rm
namespace Go.Proofs.Rm
open Go.RowKit Go.Proofs.Heap Go.Proofs.Mem
open Go.Proofs.Od (may key Xz)
theorem Oq (b:Nat) (R:Room) (n:Nat) (w:World) (hR:ZT w b R) (hI:Inv R) (hl:∀ n,(R.src n).ss.length≤1000000) :
  Calls Tryz.prog 81 (Qj (some ⟨b,0,none⟩) n) w fun e w'=>
   (∃ (nm ow:Int) (a:Option Addr) (k c:Nat) (mu has:Bool),e = .returned (.tuple (Qy (Qp nm ow a k c mu) has))∧has=(R.src n).there∧(has=true→ow=(R.src n).own))∧Below w w w':=by
 cases ht:(R.src n).there
 ·refine (rZ b R n w hR ?_).mono ?_
  ·rw [Wv,ht,Bool.and_false]
  ·rintro e w' ⟨rfl,hb⟩
   exact ⟨⟨_,_,_,_,_,_,_,rfl,rfl,fun h=>by cases h⟩,hb⟩
 ·have hs:=hI.YU n ht
  refine (wm b R n w hR ⟨hs.1,hs.2.1⟩ ht (hl n)).mono ?_
  rintro e w' ⟨⟨v',rfl,⟨a,c,rfl,_⟩⟩,hb⟩
  exact ⟨⟨_,_,_,_,_,_,_,rfl,rfl,fun _=>rfl⟩,hb⟩
end Go.Proofs.Rm
namespace Go.Proofs.By
open Go.RowKit Go.Proofs.Heap
open Go.Proofs.Rm (YG YD Room ZT Inv of QI of_lt Ka Oq)
theorem RT {P:Program} {ops:Array Oper} {o:Oper} {a:Act} {w:World} {K:Act→World→Prop} {Q:Exit→Act→World→Prop} {E':Prop} (Mq:o.guard=none) (ty:TypeId) (x:Operand) (ho:o.op = .load ty x)
  (g:Nat) (hx:a.eval x = .pointer (some ⟨g,0,none⟩)) (t:TypeId) (cs:Array Value) (fr:Nat × Nat) (d:TypeDesc) (hg:w.heap[g]?=some (.cells cs t fr))
  (hu:P.underlying ty=some d) (hd:(match d with | .struct _ | .array _ _=>true|_=>false)=true) (hi:(P.info? ty).map (·.size)=some cs.size)
  (h:K (a.put o.dst (.agg cs)) w):if Region.wanted o (yielded ops a.tmps)=true then Oper.wp P o a w K Q else E':=by
 have hw:Region.wanted o (yielded ops a.tmps)=true:=by simp [Region.wanted,Mq]
 rw [ZQ hw]
 exact wp_load_row ty x ho g hx t cs fr d hg hu hd hi h
theorem vL {w:World} {cs:List Value} {T:Taken} (h:Yh w cs T):cs.toArray.size=22:=by rw [List.size_toArray];exact h.size
theorem QL {w:World} {cs:List Value} {T:Taken} (h:Yh w cs T):(Xv:Array Value).size=cs.toArray.size:=by rw [vL h];rfl
theorem QM {w:World} {cs:List Value} {T:Taken} (h:Yh w cs T):(Tryz.prog.info? 100).map (·.size)=some cs.toArray.size:=by rw [vL h];kernel_rfl
theorem Yh.setRow {w:World} {cs:List Value} {T:Taken} (h:Yh w cs T) {g:Nat} {c:Array Value} {f:Nat × Nat} (hg:w.heap[g]?=some (.cells c 100 f)) (c':Array Value):Yh (w.setRow g c') cs T:=
 h.fr (TD w g c') (fun k hk=>by have hk:k=g:=hk;subst hk;exact ⟨_,_,_,hg,by decide,by decide,by decide,by decide,by decide,by decide,by decide⟩)
theorem tO (g b:Nat) (R:Room) (ep peer:Int) (P:KZ) (d:F3) (cv ev pv:Value) (w:World) (hD:Yd w g b R ep) (hI:Inv R) (hl:∀ n,(R.src n).ss.length≤1000000) (hP:Vt w P cv ev pv) :
  Calls Tryz.prog 106 (Jh (some ⟨g,0,none⟩) peer (VN P d cv ev pv).toArray) w fun e w'=>(∃ cs:List Value,e = .returned (.agg cs.toArray)∧Yh w' cs (Vd R ep peer P d))∧Below w w w':=by
 obtain ⟨⟨ca,cc,rfl⟩,⟨ea,ec,rfl⟩,⟨pa,pc,rfl⟩⟩:=hP.form
 obtain ⟨n,O2,O3,hO⟩:∃ (n:Nat) (O2:Int) (O3:Bool),of R P.Yy=((n:Int),O2,O3):=⟨(of R P.Yy).1.toNat,(of R P.Yy).2.1,(of R P.Yy).2.2,by rw [Int.toNat_of_nonneg (of_lt R P.Yy).1]⟩
 have HX:Hid (Vd R ep peer P d=if (O3 && decide ((R.src n).own=peer)) && decide (O2=d.ZF) then {UJ with XE:=⟨1,(n:Int),ep,0⟩,XT:=P,Wo:=d} else Yf 5 0):=by
  show Vd R ep peer P d=_
  unfold Vd owned
  rw [hO]
  rfl
 have aH:Hid (O3=true→(R.src n).there=true):=by
  show _→_
  intro h3
  obtain ⟨m,_,h1,_,h2⟩:=QI (R:=R) (x:=P.Yy) (by rw [hO];exact h3)
  rw [hO] at h2
  have h4:(n:Int)=(m:Int):=congrArg (·.1) h2
  have h4:n=m:=by omega
  rw [h4];exact h1
 generalize Vd R ep peer P d=X at *
 have Bz:=hD.cells.2.2.2
 have Au:((w.alloc (.cells (Jn P ca cc ea ec pa pc d) 97)).alloc (.cells Xv 100)).heap[w.heap.size]?=some (.cells (Jn P ca cc ea ec pa pc d) 97 (0,0)):=by
  rw [(Z' _ _).block _ Ca]
  exact Z7 w _
 have hz:((w.alloc (.cells (Jn P ca cc ea ec pa pc d) 97)).alloc (.cells Xv 100)).heap[w.heap.size+1]?=some (.cells Xv 100 (0,0)):=by
  have h:=Z7 (w.alloc (.cells (Jn P ca cc ea ec pa pc d) 97)) (.cells Xv 100)
  have e:(w.alloc (.cells (Jn P ca cc ea ec pa pc d) 97)).heap.size=w.heap.size+1:=by show (w.heap.push _).size=_;rw [O6]
  rw [e] at h
  exact h
 have KM:Below w w ((w.alloc (.cells (Jn P ca cc ea ec pa pc d) 97)).alloc (.cells Xv 100)):=ZC (Z' w _) (Zw _) _
 have Bu:Hid (Yd ((w.alloc (.cells (Jn P ca cc ea ec pa pc d) 97)).alloc (.cells Xv 100)) g b R ep):=hD.below KM
 have HP1:Hid (Vt ((w.alloc (.cells (Jn P ca cc ea ec pa pc d) 97)).alloc (.cells Xv 100)) P (.slice ca P.VW.length cc) (.slice ea P.ext.length ec) (.slice pa P.ZH.length pc)):=hP.below KM
 have J9:=Zh Au
 have HZ:=Zh hz
 have R4:=Zh KM
 clear hD hP Au hz KM
 dsimp only [VN]
 go_enter Tryz.func106,Tryz.ntmps106
 go_upto_region 1 with fail
 generalize ((w.alloc (.cells (Jn P ca cc ea ec pa pc d) 97)).alloc (.cells Xv 100))=w1 at *
 have af:Hid (Calls Tryz.prog 127 (Jf (some ⟨b,0,none⟩) P.Yy) w1.drew fun e w'=>e = .returned (.tuple (Q3 (n:Int) O2 O3))∧Below w1 w1 w'):=by
  have h:=Ka b R P.Yy w1.drew (Bu.o.room.below (YH _ _).drew)
  rw [hO] at h
  exact h.mono (fun _ _ ⟨q1,q2⟩=>⟨q1,(YH _ _).drew.trans q2⟩)
 have Zz:Hid (∀ w',Below w1 w1 w'→w'.cell? ⟨g,0,none⟩=some (.pointer (some ⟨b,0,none⟩))∧w'.cell? ⟨w,4,none⟩=some (.int .u32 P.Yy)∧Below w1 w1 w'):=fun w' h=>
  ⟨(Bu.o.below h).cells.1,by rw [cell_of ((h.block w.heap.size (ZV J9.o)).trans J9.o) 4];rfl,h⟩
 clear hO
 refine Sd ?_
 refine wp_region_held_drew (S:=(fun w'=>w'.cell? ⟨g,0,none⟩=some (.pointer (some ⟨b,0,none⟩))∧w'.cell? ⟨w,4,none⟩=some (.int .u32 P.Yy)∧Below w1 w1 w')) ZB ?_ (fun X_=>?_)
 ·(try dsimp only)
  exact Zz.o _ (YH _ _).drew
 refine YA 0 (h:=YA 1 (h:=YA 2 (h:=YA 3 (h:=YA 4 (h:=YA 5 (h:=YA 6 (h:=?_)))))))
 refine Si 7 (h:=fun K hK=>?_)
 go_simp
 refine af.o.mono ?_
 rintro e w2 ⟨rfl,Y0⟩
 have X6:=Zh Y0
 clear Y0
 go_wp2_with fail
 refine hK.out _ _ ?_ (fun XC=>?_)
 ·(try dsimp only)
  exact Zz.o _ X6.o
 clear hK K
 try simp only [Z_.pt]
 refine YA 8 (h:=YA 9 (h:=YA 10 (h:=YA 11 (h:=YA 12 (h:=YA 13 (h:=YA 14 (h:=?_)))))))
 refine wpAnyH_done ZB ?_ _
 refine QY ?_
 have ag:Hid (Calls Tryz.prog 81 (Qj (some ⟨b,0,none⟩) (n:Int)) w2 fun e w'=>(∃ (nm ow:Int) (a:Option Addr) (k c:Nat) (mu has:Bool),e = .returned (.tuple (Qy (Qp nm ow a k c mu) has))∧has=(R.src n).there∧(has=true→ow=(R.src n).own))∧Below w2 w2 w'):=Oq b R n w2 (Bu.o.room.below X6.o) hI hl
 have cg2:=(Zz.o w2 X6.o).1
 clear X_ XC af Zz
 go_upto_region 3 with (go_at_call 81;refine ag.o.mono ?_;rintro e w3 ⟨⟨nm,ow,a,k,c,mu,has,rfl,Fy,Eu⟩,VH⟩;have VT:=Zh (X6.o.trans (VH.mono X6.o.size));have HH:=Zh Fy;have ME:=Zh Eu;clear VH Fy Eu)
 have Uc:Hid (Below w1 w1 (w3.alloc (.cells (Qp nm ow a k c mu) 108))):=ZC VT.o (Zw _) _
 have cl:=cell_of ((VT.o.block w.heap.size (ZV J9.o)).trans J9.o) 11
 simp only [SK,S6,SJ] at cl
 have hxl:w.heap.size<w3.heap.size:=Pb (ZV J9.o) VT.o.size
 clear ag X6 cg2
 cases O3 with
 | false=>
  rw [Z4 Zi] at HX
  exact cD
 | true=>
  have Eu:ow=(R.src n).own:=ME.o (by rw [HH.o];exact aH.o rfl)
  subst Eu
  clear ME HH aH
  by_cases hp:(R.src n).own=peer
  ·by_cases ml:O2=d.ZF
   ·subst hp
    subst ml
    rw [ZQ Zi] at HX
    go_upto_region 5 with fail
    clear cl hxl
    generalize w3.alloc (.cells (Qp nm (R.src n).own a k c mu) 108)=w4 at *
    have cg4:=(Bu.o.below Uc.o).cells.2.1
    have L5:=(Uc.o.block w.heap.size (ZV J9.o)).trans J9.o
    have vh:=(Uc.o.block (w.heap.size+1) (ZV HZ.o)).trans HZ.o
    have aB:=Zh (HP1.o.below Uc.o)
    have hbw4:Below w w w4:=R4.o.trans (Uc.o.mono R4.o.size)
    clear Bu HP1 J9 HZ Uc VT R4 hI hl
    refine Sd ?_
    refine wp_region_held_drew (S:=(fun w'=>w'.cell? ⟨g,1,none⟩=some (.int .i64 ep))) ZB ?_ (fun X_=>?_)
    ·(try dsimp only)
     exact cg4
    refine YA 0 (h:=YA 1 (h:=YA 2 (h:=YA 3 (h:=YA 4 (h:=YA 5 (h:=?_))))))
    refine Si 6 (h:=fun K hK=>?_)
    refine RT Zr 97 (.tmp 5) Zr w.heap.size Zr 97 (Jn P ca cc ea ec pa pc d) (0,0) _ L5 Tryz.underlying97 rfl ZB ?_
    refine hK.out _ _ ?_ (fun XC=>?_)
    ·(try dsimp only)
     first|exact cg4|exact cg5
    clear hK K
    try simp only [Z_.pt]
    refine YA 7 (h:=?_)
    refine Si 8 (h:=fun K hK=>?_)
    refine Sz Zr 100 (.tmp 6) (.tmp 56) Zr Zr (w.heap.size+1) (Jw 1 (n:Int) ep 0 P ca cc ea ec pa pc d none 0 0 none 0 0 0) Zr Zr 100 _ vh ZB ZB ZB ?_
    have cg5:(w4.setRow (w.heap.size+1) (Jw 1 (n:Int) ep 0 P ca cc ea ec pa pc d none 0 0 none 0 0 0)).cell? ⟨g,1,none⟩=some (.int .i64 ep):=by rw [World.cell?_of_block (w:=w4) (setRow_other w4 _ g _ Zo)];exact cg4
    refine hK.out _ _ ?_ (fun VE=>?_)
    ·(try dsimp only)
     first|exact cg4|exact cg5
    clear hK K
    try simp only [Z_.pt]
    refine wpAnyH_done ZB ?_ _
    refine QY ?_
    go_wp2_with fail
    refine VJ (v:= .agg (Jw 1 (n:Int) ep 0 P ca cc ea ec pa pc d none 0 0 none 0 0 0)) ?_ rfl ?_
    ·exact results_cell_row Zr _ _ (w.heap.size+1) 100 (Jw 1 (n:Int) ep 0 P ca cc ea ec pa pc d none 0 0 none 0 0 0) (0,0) _ Zr (setRow_heap w4.drew _ _ _ _ _ vh) Tryz.underlying100 rfl ZB
    refine ⟨⟨(Jw 1 (n:Int) ep 0 P ca cc ea ec pa pc d none 0 0 none 0 0 0),rfl,?_⟩,Z3 hbw4.drew (IP _) _⟩
    rw [HX.o]
    have HT:Yh w4.drew (Jw 1 (n:Int) ep 0 P ca cc ea ec pa pc d none 0 0 none 0 0 0) {UJ with XE:=⟨1,(n:Int),ep,0⟩,XT:=P,Wo:=d}:=⟨_,_,_,_,_,rfl,aB.o.below (YH _ _).drew,YI.nil _,Row.nil _ _⟩
    exact HT.setRow vh _
   ·rw [Z4 (by simp [ml])] at HX
    have hb:(O2 != d.ZF)=true:=by rw [R6];exact ml
    have Y0:(O2 == d.ZF)=false:=by rw [WQ];exact ml
    subst hp
    exact cD
  ·rw [Z4 (by simp [hp])] at HX
   have hb:((R.src n).own != peer)=true:=by rw [R6];exact hp
   have Y0:((R.src n).own == peer)=false:=by rw [WQ];exact hp
   exact cD
theorem wE:∀ x:Fin 256,bits .and .u8 ((x.val:Nat):Int) 60=((x.val / 4 % 16*4:Nat):Int):=by decide +kernel
theorem cU (n:Nat) (hn:n<256):bits .and .u8 (n:Int) 60=((n / 4 % 16*4:Nat):Int):=wE ⟨n,hn⟩
def oF (d:F3):Value:= .agg (Jp d)
theorem y9 (v:Value) (b:List UInt8) (w:World) (hv:X9 w v b) :
  Calls Tryz.prog 126 #[v] w fun e w'=>e = .returned (.tuple (Qo (Qc (YB b).1.ZF (YB b).1.key (YB b).1.start (YB b).1.frame) (YB b).2))∧Below w w w':=by
 have hlen:=hv.len
 have HV:Hid (∀ w',Below w w w'→X9 w' v b):=fun w' h=>hv.below h
 have HE:Hid (YB b=if b.length<4 then (TG,2) else if at8 b 0 / 4 % 16≠0∨at8 b 0 % 4=3∨at8 b 1≠90 then (TG,1) else (⟨(at8 b 0 % 4:Nat),decide (128≤at8 b 0),decide (at8 b 0 / 64 % 2=1),get b 2 2⟩,0)):=rfl
 obtain ⟨a,c,rfl,Sg,-⟩:=id hv
 clear hv
 have UF:=Z' w (.cells (Qc 0 false false 0) 81)
 have IK:=Zh (HV.o _ UF)
 generalize YB b=X at *
 by_cases h1:b.length<4
 ·obtain rfl:X=(TG,2):=by rw [HE.o,ZQ h1]
  clear HE HV IK
  go_enter Tryz.func126,Tryz.ntmps126
  go_wp2
  exact VJ (v:= .tuple (Qo (Qc 0 false false 0) 2)) (by simp [results,Tryz.results126,go_sem]) rfl ⟨rfl,UF⟩
 obtain ⟨g,off,cap,e1,_,_,hc⟩:=R7 (HV.o w (YH _ _)) Zo
 cases e1
 obtain ⟨_,_,_,e2,_,_,dN⟩:=R7 IK.o Zo
 cases e2
 have d0:(w.alloc (.cells (Qc 0 false false 0) 81)).cell? ⟨g,off,none⟩=some (.int .u8 (at8 b 0:Int)):=dN 0 Zo
 have d1:=dN 1 Zo
 have l1:decide ((b.length:Int)<4)=false:=WB Zo
 have QU:=Xo b 0
 have S9:=Xo b 1
 have a60:=cU (at8 b 0) QU
 have a3:=and_3 (at8 b 0) QU
 clear hc dN
 by_cases h2:at8 b 0 / 4 % 16≠0∨at8 b 0 % 4=3∨at8 b 1≠90
 ·obtain rfl:X=(TG,1):=by rw [HE.o,Z4 h1,ZQ h2]
  clear HE HV IK
  by_cases h3:at8 b 0 / 4 % 16≠0
  ·have q3:(((at8 b 0 / 4 % 16*4:Nat):Int) != 0)=true:=by rw [R6];omega
   clear h2 h3
   generalize at8 b 0 / 4 % 16*4=y at *
   exact cL
  ·have hz:at8 b 0 / 4 % 16*4=0:=by omega
   rw [hz] at a60
   by_cases h4:at8 b 0 % 4=3
   ·rw [h4] at a3
    clear h2 h3 h4 hz
    exact cL
   ·have q4:(((at8 b 0 % 4:Nat):Int) == 3)=false:=by rw [WQ];omega
    have q5:(((at8 b 1:Nat):Int) != 90)=true:=by rw [R6];omega
    clear h2 h3 h4 hz
    generalize at8 b 0 % 4=y at *
    exact cL
 ·have CG:=Oo _ b 2 2 _ IK.o
  have hn:get b 2 2<65536:=Va b 2 2 2 Zd
  have hz:at8 b 0 / 4 % 16*4=0:=by omega
  rw [hz] at a60
  have q4:(((at8 b 0 % 4:Nat):Int) == 3)=false:=by rw [WQ];omega
  have q5:(((at8 b 1:Nat):Int) != 90)=false:=by rw [bne_eq_false_iff_eq];omega
  have a128:=uM (at8 b 0) QU
  have a64:=cV (at8 b 0) QU
  obtain rfl:X=(⟨(at8 b 0 % 4:Nat),(((at8 b 0 / 128 % 2*128:Nat):Int) != 0),(((at8 b 0 / 64 % 2*64:Nat):Int) != 0),get b 2 2⟩,0):=by
   rw [HE.o,Z4 h1,Z4 h2]
   congr 2
   ·rw [Bool.eq_iff_iff,Oh,R6];omega
   ·rw [Bool.eq_iff_iff,Oh,R6];omega
  dsimp only
  have qU:=Zh CG
  have Zz:Hid (∀ w',Below w w w'→w'.cell? ⟨g,off,none⟩=some (.int .u8 (at8 b 0:Int))∧Below w w w'):=fun w' h=>by
   obtain ⟨_,_,_,e,_,_,hc⟩:=R7 (HV.o w' h) Zo
   cases e
   exact ⟨hc 0 Zo,h⟩
  clear HE HV IK h2 hz CG
  have hy4:at8 b 0 % 4<4:=by omega
  have aW:(0:Int)<(b.length:Int):=by omega
  have hbN:0<b.length:=by omega
  have hbZ:¬b.length=0:=by omega
  generalize get b 2 2=n at *
  generalize at8 b 0 / 128 % 2*128=y1 at *
  generalize at8 b 0 / 64 % 2*64=y2 at *
  generalize at8 b 0 % 4=y at *
  generalize b.length=N at *
  have aY:IntKind.u16.wrap (n:Int)=(n:Int):=by rw [IntKind.wrap_u16];omega
  have hyw:IntKind.i64.wrap (y:Int)=(y:Int):=Ty _ Zo
  go_enter Tryz.func126,Tryz.ntmps126
  go_wp2_with (go_at_call 155;refine qU.o.mono ?_;rintro e w' ⟨rfl,rfl⟩)
  go_region_held3 (fun w'=>w'.cell? ⟨g,off,none⟩=some (.int .u8 (at8 b 0:Int))∧Below w w w') (first|exact Zz.o _ (by first|exact (Z' w _).drew|with_reducible assumption|exact Below.drew WT|exact Below.setCell WT Zi _|exact Below.setCell (Below.drew WT) Zi _)|go_keep) (first|fail)
  go_wp2
  exact VJ (v:= .tuple (Qo (Qc y ((y1:Int) != 0) ((y2:Int) != 0) n) 0)) (by simp [results,Tryz.results126,go_sem,aY]) rfl ⟨rfl,(Z' w _).drew⟩
end Go.Proofs.By
namespace Go.Proofs.By
open Go.RowKit Go.Proofs.Heap
theorem x7 (v:Value) (b:List UInt8) (w:World) (hv:X9 w v b) :
  Calls Tryz.prog 125 #[v] w fun e w'=>(∃ a,e = .returned (.tuple #[a,.int .i64 (YM b).2])∧Oe w' a (YM b).1)∧Below w w w':=by
 by_cases h:(looks b).2=0
 ·exact uh v b w hv h
 ·exact x8 v b w hv h
def Bd (b:List UInt8):Ev × Int:=if (YM b).2≠0 then (.none,(YM b).2) else if (YB (YM b).1.ZH).2≠0 then (.none,(YB (YM b).1.ZH).2) else (.X7 (YM b).1 (YB (YM b).1.ZH).1,0)
theorem Hu {b:List UInt8} (h1:¬512<b.length) (h2:¬b.length<2) (h3:¬(192≤at8 b 1∧at8 b 1≤223)):XJ b=Bd b:=by
 unfold XJ Bd
 rw [Z4 h1,Z4 h2,Z4 h3]
theorem LP (v:Value) (b:List UInt8) (w:World) (hv:X9 w v b) (h3:¬(192≤at8 b 1∧at8 b 1≤223)) :
  Calls Tryz.prog 105 #[v] w fun e w'=>(∃ a,e = .returned (.tuple #[a,.int .i64 (XJ b).2])∧vO w' a (XJ b).1)∧Below w w w':=by
 have hlen:=hv.len
 by_cases h1:512<b.length
 ·have HX:Hid (XJ b=(.none,5)):=by show _=_;unfold XJ;rw [ZQ h1]
  exact cM
 by_cases h2:b.length<2
 ·have HX:Hid (XJ b=(.none,2)):=by show _=_;unfold XJ;rw [Z4 h1,ZQ h2]
  exact cM
 rw [Hu h1 h2 h3]
 have HC:=Zh (x7 v b w hv)
 have HX:Hid (Bd b=if (YM b).2≠0 then (.none,(YM b).2) else if (YB (YM b).1.ZH).2≠0 then (.none,(YB (YM b).1.ZH).2) else (.X7 (YM b).1 (YB (YM b).1.ZH).1,0)):=rfl
 obtain ⟨g,off,c,rfl,Sg,BC,W9⟩:=R7 hv Zo
 have d1:=W9 1 Zo
 clear W9 hv Sg BC
 have aW:(1:Int)<(b.length:Int):=by omega
 have hbN:1<b.length:=by omega
 generalize Bd b=X at *
 generalize YM b=Y at *
 obtain ⟨P,er⟩:=Y
 dsimp only at HC HX
 have iI:=fun (x:Value) (w:World)=>run_makeInterface (P:=Tryz.prog) w 97 x ZB
 have hk:at8 b 1<192∨223<at8 b 1:=by omega
 generalize at8 b 1=kd at *
 go_enter Tryz.func105,Tryz.ntmps105
 rcases hk with hk|hk
 ·have l1:decide ((192:Int)≤(kd:Int))=false:=WB Zo
  exact Yx10
 ·have l1:decide ((192:Int)≤(kd:Int))=true:=We Zo
  have l2:decide ((kd:Int)≤223)=false:=WB Zo
  exact Yx10
open Go.Proofs.Rm (YG YD Room ZT Inv Ze TJ)
theorem MX {P:Program} (w:World) (t xt:TypeId) (v:Value) (d:TypeDesc) (hu:P.underlying t=some d) (hd:(match d with | .interface _=>false|_=>true)=true):(Instr.typeAssert (.iface t v) xt t true).run P w = .ok (.tuple #[v,.bool true]) w:=by
 unfold Instr.typeAssert
 simp only [Sem.run_bind,run_underlying hu w,Result.andThen_ok]
 cases d <;> simp_all
theorem Ht {b:List UInt8} (h3:¬(192≤at8 b 1∧at8 b 1≤223)) (h:(XJ b).2=0):∃ p d,(XJ b).1 = .X7 p d:=by
 by_cases h1:512<b.length
 ·unfold XJ at h;rw [ZQ h1] at h;cases h
 by_cases h2:b.length<2
 ·unfold XJ at h;rw [Z4 h1,ZQ h2] at h;cases h
 rw [Hu h1 h2 h3] at h ⊢
 unfold Bd at h ⊢
 by_cases h4:(YM b).2≠0
 ·rw [ZQ h4] at h;exact absurd h h4
 rw [Z4 h4] at h ⊢
 by_cases h5:(YB (YM b).1.ZH).2≠0
 ·rw [ZQ h5] at h;exact absurd h h5
 rw [Z4 h5]
 exact ⟨_,_,rfl⟩
theorem Gz (g b:Nat) (R:Room) (ep kd peer src ly:Int) (nm:ByteArray) (sa ba:Option Addr) (sl sc bl bc:Nat) (l:List UInt8) (w:World) (hD:Yd w g b R ep) (hI:Inv R) (hl:∀ n,(R.src n).ss.length≤1000000) (hv:X9 w (.slice ba bl bc) l) (h3:¬(192≤at8 l 1∧at8 l 1≤223)) :
  Calls Tryz.prog 76 (Qi (some ⟨g,0,none⟩) (Qa kd peer src ly nm sa sl sc ba bl bc)) w fun e w'=>(∃ cs:List Value,e = .returned (.agg cs.toArray)∧Yh w' cs (YF R ep peer l).1.1)∧Yd w' g b (YF R ep peer l).1.2 (YF R ep peer l).2∧Fr w (fun k=>k=b∨k=g) w w':=by
 have HX:Hid (YF R ep peer l=if (XJ l).2≠0 then ((Yf 3 (XJ l).2,R),ep) else if !Ze R peer then ((Yf 4 0,R),ep) else match (XJ l).1 with
  | .X7 p d=>((Vd R ep peer p d,R),ep)
  | .XV l=>((Ul (ep+1) l (ZE peer l R).1.1 (ZE peer l R).2,(ZE peer l R).1.2),ep+1)
  | .none=>((Ul (ep+1) [] [] 0,R),ep+1)):=rfl
 have MF:=Zh (Ht (b:=l) h3)
 have Bz:=hD.cells.2.2.2
 have Au:((w.alloc (.cells (Qa kd peer src ly nm sa sl sc ba bl bc) 32)).alloc (.cells Xv 100)).heap[w.heap.size]?=some (.cells (Qa kd peer src ly nm sa sl sc ba bl bc) 32 (0,0)):=by
  rw [(Z' _ _).block _ Ca]
  exact Z7 w _
 have hz:((w.alloc (.cells (Qa kd peer src ly nm sa sl sc ba bl bc) 32)).alloc (.cells Xv 100)).heap[w.heap.size+1]?=some (.cells Xv 100 (0,0)):=by
  exact Yx49
 have KM:Below w w ((w.alloc (.cells (Qa kd peer src ly nm sa sl sc ba bl bc) 32)).alloc (.cells Xv 100)):=ZC (Z' w _) (Zw _) _
 have fM:=Zh hD
 have Bu:Hid (Yd ((w.alloc (.cells (Qa kd peer src ly nm sa sl sc ba bl bc) 32)).alloc (.cells Xv 100)) g b R ep):=hD.below KM
 have CS:=Zh (LP _ l ((w.alloc (.cells (Qa kd peer src ly nm sa sl sc ba bl bc) 32)).alloc (.cells Xv 100)) (hv.below KM) h3)
 have J9:=Zh Au
 have HZ:=Zh hz
 have R4:=Zh KM
 clear hD hv Au hz KM h3
 generalize YF R ep peer l=X at *
 generalize XJ l=Y at *
 obtain ⟨ev,er⟩:=Y
 dsimp only at HX MF CS
 go_enter Tryz.func76,Tryz.ntmps76
 go_upto_region 2 with (go_at_call 105;refine CS.o.mono ?_;rintro e w2 ⟨⟨a,rfl,Lm⟩,Y0⟩;have Bv:=Zh Lm;have X6:=Zh Y0;clear Lm Y0)
 clear CS
 generalize ((w.alloc (.cells (Qa kd peer src ly nm sa sl sc ba bl bc) 32)).alloc (.cells Xv 100))=w1 at *
 have Zz:Hid (∀ w',Below w1 w1 w'→w'.cell? ⟨g,0,none⟩=some (.pointer (some ⟨b,0,none⟩))∧w'.cell? ⟨w,1,none⟩=some (.int .i64 peer)):=fun w' h=>
  ⟨(Bu.o.below h).cells.1,by rw [cell_of ((h.block w.heap.size (ZV J9.o)).trans J9.o) 1];rfl⟩
 have UL:Hid (∀ w' cs T,Below w w w'→Yh w' cs T→X=((T,R),ep)→(∃ cs':List Value,Ending.returned (.agg cs.toArray) = .returned (.agg cs'.toArray)∧Yh w' cs' X.1.1)∧Yd w' g b X.1.2 X.2∧Fr w (fun k=>k=b∨k=g) w w'):=fun w' cs T h1 h2 h3=>by
  rw [h3];exact ⟨⟨cs,rfl,h2⟩,fM.o.below h1,Fr.Z8 _ h1⟩
 by_cases R9:er=0
 ·subst R9
  rw [Z4 Zi] at HX
  obtain ⟨p,d,hpd⟩:=MF.o rfl
  subst hpd
  dsimp only at HX
  have HJ:=Zh (TJ b R peer w2.drew ((Bu.o.room.below X6.o).below (YH _ _).drew))
  go_upto_region 4 with fail
  refine Sd ?_
  refine wp_region_held_drew (S:=(fun w'=>w'.cell? ⟨g,0,none⟩=some (.pointer (some ⟨b,0,none⟩))∧w'.cell? ⟨w,1,none⟩=some (.int .i64 peer))) ZB ?_ (fun X_=>?_)
  ·(try dsimp only)
   exact Zz.o _ X6.o.drew
  refine YA 0 (h:=YA 1 (h:=YA 2 (h:=YA 3 (h:=YA 4 (h:=YA 5 (h:=?_))))))
  refine Si 6 (h:=fun K hK=>?_)
  go_simp
  refine HJ.o.mono ?_
  rintro e w' ⟨rfl,rfl⟩
  go_wp2_with fail
  refine hK.out _ _ ?_ (fun XC=>?_)
  ·(try dsimp only)
   exact Zz.o _ X6.o.drew
  clear hK K
  try simp only [Z_.pt]
  refine YA 7 (h:=?_)
  refine wpAnyH_done ZB ?_ _
  refine QY ?_
  clear X_ XC Zz
  have VT:Hid (Below w1 w1 w2.drew):=X6.o.drew
  have mM:Hid (vO w2.drew a (.X7 p d)):=Bv.o.below (YH _ _).drew
  clear X6 Bv HJ
  generalize w2.drew=w3 at *
  clear w2
  by_cases hj:Ze R peer=true
  ·rw [hj,Z4 Zi] at HX
   rw [hj]
   have hta:=fun (w:World) (v:Value)=>MX (P:=Tryz.prog) w 97 188 v _ Tryz.underlying97 rfl
   obtain ⟨cv,ev,pv,ha,hP⟩:=mM.o
   obtain ⟨⟨ca,cc,F6⟩,⟨ea,ec,dR⟩,⟨pa,pc,Mr⟩⟩:=hP.form
   subst F6;subst dR;subst Mr
   dsimp only [VN] at ha
   subst ha
   have bp:=Z7 w3 (.cells (Jn p ca cc ea ec pa pc d) 97)
   have Uc:Hid (Below w1 w1 (w3.alloc (.cells (Jn p ca cc ea ec pa pc d) 97))):=ZC VT.o (Zw _) _
   have CM:=Zh (tO g b R ep peer p d _ _ _ (w3.alloc (.cells (Jn p ca cc ea ec pa pc d) 97)) (Bu.o.below Uc.o) hI hl (hP.below (Z' _ _)))
   have L5:=cell_of ((VT.o.block w.heap.size (ZV J9.o)).trans J9.o) 1
   simp only [SK,S6,SJ] at L5
   have hxl:w.heap.size<w3.heap.size:=Pb (ZV J9.o) VT.o.size
   clear mM hP
   dsimp only [VN] at CM
   go_wp2_with (first|(with_reducible refine Y8 97 (.tmp 7) rfl ?_;refine Y9 rfl 97 (.tmp 7) rfl w3.heap.size rfl 97 (Jn p ca cc ea ec pa pc d) (0,0) _ bp Tryz.underlying97 rfl ZB ?_)|(go_at_call 106;refine CM.o.mono ?_;rintro e w5 ⟨⟨cs,rfl,PV⟩,Lj⟩;have P7:=Zh (Uc.o.trans (Lj.mono Uc.o.size));have JR:=(P7.o.block (w.heap.size+1) (ZV HZ.o)).trans HZ.o;have hi:=QM PV;have hold:=QL PV;have Pr:=PV.one;have J7:=Zh PV;clear PV Lj)|(with_reducible refine ZU 100 (.tmp 4) (.tmp 46) rfl ?_;refine ZW rfl 100 (.tmp 4) (.tmp 46) rfl rfl (w.heap.size+1) cs.toArray rfl rfl 100 Xv JR hi hold Pr ?_))
   refine VJ (v:= .agg cs.toArray) ?_ rfl ?_
   ·exact nU
   exact UL.o _ cs _ (Z3 (R4.o.trans (P7.o.mono R4.o.size)) (IP _) _) (J7.o.setRow JR _) HX.o
  ·exact Yx38
 ·exact Yx34
end Go.Proofs.By
namespace Go.Proofs.By
open Go.RowKit Go.Proofs.Heap
open Go.Proofs.Rm (YG YD Room ZT Inv Wm YO mH F9)
open Go.Proofs.Od (Xz)
open Go.Proofs.Mem
def Gr (g b:Nat) (R:Room) (ep:Int) (o:Rm.Op) (l:List UInt8) (w:World) (e:Ending) (w':World):Prop:=
 ∃ sv,(∃ cs:List Value,e = .returned (.agg cs.toArray)∧Yh w' cs (take R ep o l sv).1.1)∧Yd w' g b (take R ep o l sv).1.2 (take R ep o l sv).2∧Fr w (fun k=>k=b∨k=g) w w'
theorem uO {R:Room} {o:Rm.Op} {sv:Value} (h:(Wm R o sv).2≠0):(Wm R o sv).1.2=R:=by
 unfold Wm at h ⊢
 split
 ·rfl
 ·rename_i h1;rw [Z4 h1] at h;exact absurd rfl h
theorem Yd.ne {w:World} {g b:Nat} {R:Room} {ep:Int} (h:Yd w g b R ep):g≠b:=by
 intro e
 obtain ⟨c,hc,_⟩:=h.room.cells
 rw [←e,h.Za] at hc
 injection hc with hc
 injection hc with _ hc
 exact absurd hc Zd
theorem Yd.setRow {w:World} {g b:Nat} {R:Room} {ep:Int} (h:Yd w g b R ep) {X:Nat} {c:Array Value} {f:Nat × Nat} (hg:w.heap[X]?=some (.cells c 100 f)) (hXg:g≠X) (hXb:b≠X) (c':Array Value):Yd (w.setRow X c') g b R ep:=
 ⟨by rw [setRow_other w X g _ hXg];exact h.Za,h.room.fr (TD w X c') (Zw _) (fun e=>hXb e) (fun k _ _ hk=>by have hk:k=X:=hk;rw [hk,hg];intro h;injection h with h;injection h with _ h;exact absurd h Zd)⟩
theorem nE (g b:Nat) (R:Room) (ep kd p n q:Int) (nm:List UInt8) (ss:List Int) (sa ba:Option Addr) (sc bl bc:Nat) (l:List UInt8) (w:World) (hD:Yd w g b R ep) (hI:Inv R) (hT:Xz w) (h0:0≤ep) (h9:ep<1000000000)
  (hn:nm.length<9223372036854775807) (hs:XU w (.slice sa ss.length sc) ss.length (YO ss))
  (hdg:kd=1→∀ w1,Below w w w1→Calls Tryz.prog 76 (Qi (some ⟨g,0,none⟩) (Qa kd p n q (str nm) sa ss.length sc ba bl bc)) w1 fun e w'=>(∃ cs:List Value,e = .returned (.agg cs.toArray)∧Yh w' cs (YF R ep p l).1.1)∧Yd w' g b (YF R ep p l).1.2 (YF R ep p l).2∧Fr w1 (fun k=>k=b∨k=g) w1 w') :
  Calls Tryz.prog 44 (Qi (some ⟨g,0,none⟩) (Qa kd p n q (str nm) sa ss.length sc ba bl bc)) w (Gr g b R ep ⟨kd,p,n,q,nm,ss⟩ l w):=by
 have HX:Hid (∀ sv,take R ep ⟨kd,p,n,q,nm,ss⟩ l sv=if kd=1 then YF R ep p l else if (Wm R ⟨kd,p,n,q,nm,ss⟩ sv).2≠0 then ((Yf 6 (Wm R ⟨kd,p,n,q,nm,ss⟩ sv).2,R),ep) else ((Ul (ep+1) [] (Wm R ⟨kd,p,n,q,nm,ss⟩ sv).1.1 0,(Wm R ⟨kd,p,n,q,nm,ss⟩ sv).1.2),ep+1)):=fun sv=>rfl
 have Bz:=hD.cells.2.2.2
 have W9:=hD.room.lt
 have wW:=hD.ne
 have Au:((w.alloc (.cells (Qa kd p n q (str nm) sa ss.length sc ba bl bc) 32)).alloc (.cells Xv 100)).heap[w.heap.size]?=some (.cells (Qa kd p n q (str nm) sa ss.length sc ba bl bc) 32 (0,0)):=by
  rw [(Z' _ _).block _ Ca]
  exact Z7 w _
 have hz:((w.alloc (.cells (Qa kd p n q (str nm) sa ss.length sc ba bl bc) 32)).alloc (.cells Xv 100)).heap[w.heap.size+1]?=some (.cells Xv 100 (0,0)):=by
  have h:=Z7 (w.alloc (.cells (Qa kd p n q (str nm) sa ss.length sc ba bl bc) 32)) (.cells Xv 100)
  exact Yx110
 have KM:Below w w ((w.alloc (.cells (Qa kd p n q (str nm) sa ss.length sc ba bl bc) 32)).alloc (.cells Xv 100)):=ZC (Z' w _) (Zw _) _
 have Bu:Hid (Yd ((w.alloc (.cells (Qa kd p n q (str nm) sa ss.length sc ba bl bc) 32)).alloc (.cells Xv 100)) g b R ep):=hD.below KM
 have J9:=Zh Au
 have HZ:=Zh hz
 have R4:=Zh KM
 have UL:Hid (∀ w2 cs (T:(Taken × Room) × Int) sv,Fr ((w.alloc (.cells (Qa kd p n q (str nm) sa ss.length sc ba bl bc) 32)).alloc (.cells Xv 100)).heap.size (fun k=>k=b∨k=g) ((w.alloc (.cells (Qa kd p n q (str nm) sa ss.length sc ba bl bc) 32)).alloc (.cells Xv 100)) w2→Yh w2 cs T.1.1→Yd w2 g b T.1.2 T.2→take R ep ⟨kd,p,n,q,nm,ss⟩ l sv=T→Gr g b R ep ⟨kd,p,n,q,nm,ss⟩ l w (.returned (.agg cs.toArray)) (w2.setRow (w.heap.size+1) cs.toArray)):=fun w2 cs T sv h1 h2 h3 h4=>by
  have Sr:=(h1.block (w.heap.size+1) (ZV hz) Zo).trans hz
  refine ⟨sv,⟨cs,rfl,by rw [h4];exact h2.setRow Sr _⟩,by rw [h4];exact h3.setRow Sr Zo Zo _,?_⟩
  exact Mj ((Fr.Z8 _ KM).trans (h1.mono KM.size (fun _ _ h=>h))) (IP _) _
 by_cases hk:kd=1
 ·have CD:=Zh (hdg hk _ KM)
  have DZ:Hid (take R ep ⟨kd,p,n,q,nm,ss⟩ l (.slice none 0 0)=YF R ep p l):=by show _=_;rw [HX.o,ZQ hk]
  subst hk
  clear HX hdg hD hT hs Au hz KM
  generalize YF R ep p l=X at *
  go_enter Tryz.func44,Tryz.ntmps44
  go_wp2_with (first|(go_at_call 76;refine CD.o.mono ?_;rintro e w2 ⟨⟨cs,rfl,PV⟩,rz,wT⟩;have JR:=(wT.block (w.heap.size+1) (ZV HZ.o) Zo).trans HZ.o;have hi:=QM PV;have hold:=QL PV;have Pr:=PV.one;have J7:=Zh PV;have fN:=Zh rz;have zn:=Zh wT;clear PV rz wT)|(with_reducible refine ZU 100 (.tmp 4) (.tmp 12) rfl ?_;refine ZW rfl 100 (.tmp 4) (.tmp 12) rfl rfl (w.heap.size+1) cs.toArray rfl rfl 100 Xv JR hi hold Pr ?_))
  refine VJ (v:= .agg cs.toArray) ?_ rfl ?_
  ·exact nU
  exact UL.o _ cs _ _ zn.o J7.o fN.o DZ.o
 ·have DZ:Hid (∀ sv,take R ep ⟨kd,p,n,q,nm,ss⟩ l sv=if (Wm R ⟨kd,p,n,q,nm,ss⟩ sv).2≠0 then ((Yf 6 (Wm R ⟨kd,p,n,q,nm,ss⟩ sv).2,R),ep) else ((Ul (ep+1) [] (Wm R ⟨kd,p,n,q,nm,ss⟩ sv).1.1 0,(Wm R ⟨kd,p,n,q,nm,ss⟩ sv).1.2),ep+1)):=fun sv=>by rw [HX.o,Z4 hk]
  have CD:=Zh (mH b R ⟨kd,p,n,q,nm,ss⟩ sa ba sc bl bc ((w.alloc (.cells (Qa kd p n q (str nm) sa ss.length sc ba bl bc) 32)).alloc (.cells Xv 100)).drew (Bu.o.room.below (YH _ _).drew) hI (Utf8Tabs_below hT KM.drew) hn (hs.below KM.drew))
  have mj:(kd == 1)=false:=by rw [WQ];exact hk
  dsimp only at CD
  clear HX hdg hD hT hs Au hz KM
  generalize hdo:Wm R ⟨kd,p,n,q,nm,ss⟩=DO at *
  go_enter Tryz.func44,Tryz.ntmps44
  go_upto_region 3 with fail
  generalize ((w.alloc (.cells (Qa kd p n q (str nm) sa ss.length sc ba bl bc) 32)).alloc (.cells Xv 100))=w1 at *
  have cg1:=Bu.o.cells.1
  have S9:=J9.o
  refine Sd ?_
  refine wp_region_held_drew (S:=(fun w'=>w'.cell? ⟨g,0,none⟩=some (.pointer (some ⟨b,0,none⟩)))) ZB ?_ (fun X_=>?_)
  ·(try dsimp only)
   exact cg1
  refine YA 0 (h:=YA 1 (h:=YA 2 (h:=YA 3 (h:=?_))))
  refine Si 4 (h:=fun K hK=>?_)
  refine RT Zr 32 (.tmp 3) Zr w.heap.size Zr 32 (Qa kd p n q (str nm) sa ss.length sc ba bl bc) (0,0) _ S9 Tryz.underlying32 rfl ZB ?_
  refine hK.out _ _ ?_ (fun XC=>?_)
  ·(try dsimp only)
   first|exact cg2|exact cg1
  clear hK K
  try simp only [Z_.pt]
  refine Si 5 (h:=fun K hK=>?_)
  go_simp
  refine CD.o.mono ?_
  rintro e w2 ⟨v,sv,rfl,S8,Xt,Wx⟩
  rw [hdo] at S8 Xt
  try rw [hdo]
  obtain ⟨va,vc,hv,-⟩:=id S8
  subst hv
  have I6:=Zh (DZ.o sv)
  have HDOR:Hid ((DO sv).2≠0→(DO sv).1.2=R):=by rw [←hdo];exact uO
  have zn:Hid (Fr w1 (fun k=>k=b∨k=g) w1 w2):=(Fr.Z8 _ (YH w1.heap.size w1).drew).trans (Wx.mono (Zw _) (fun _ _ h=>Ww h))
  have fN:Hid (Yd w2 g b (DO sv).1.2 ep):=⟨(Wx.block g (by have h:=Bu.o.cells.2.2.2;exact h) wW).trans Bu.o.Za,Xt⟩
  have F4:=Zh S8
  have cg2:=fN.o.cells.1
  clear S8 Xt Wx CD
  generalize (DO sv).1.1.length=vn at *
  go_wp2_with fail
  refine hK.out _ _ ?_ (fun VE=>?_)
  ·(try dsimp only)
   first|exact cg2|exact cg1
  clear hK K
  try simp only [Z_.pt]
  refine YA 6 (h:=YA 7 (h:=YA 8 (h:=YA 9 (h:=YA 10 (h:=?_)))))
  refine wpAnyH_done ZB ?_ _
  refine QY ?_
  clear X_ XC VE
  by_cases he:(DO sv).2=0
  ·rw [he]
   rw [Z4 (by simp [he])] at I6
   have Tz:((Qm 0 0 0 0 false 0 0 0 0 none 0 0 false 0 none 0 0 none 0 0 0 0 false false 0 none 0 0 va vn vc 0):List Value).length=22:=rfl
   have CC:=Zh (JE g (.pointer (some ⟨b,0,none⟩)) ep (Qm 0 0 0 0 false 0 0 0 0 none 0 0 false 0 none 0 0 none 0 0 0 0 false false 0 none 0 0 va vn vc 0) w2 fN.o.Za h0 h9 rfl ZB)
   clear Tz
   have cg:Hid (Yh w2 ((((Qm 0 0 0 0 false 0 0 0 0 none 0 0 false 0 none 0 0 none 0 0 0 0 false false 0 none 0 0 va vn vc 0):List Value).set 0 (.int .i64 2)).set 2 (.int .i64 (ep+1))) (Ul (ep+1) [] (DO sv).1.1 0)):=⟨_,_,_,_,_,rfl,Vt.nil _,YI.nil _,F4.o⟩
   have fJ:=Zh fN.o.apart
   generalize Sg:((((Qm 0 0 0 0 false 0 0 0 0 none 0 0 false 0 none 0 0 none 0 0 0 0 false false 0 none 0 0 va vn vc 0):List Value).set 0 (.int .i64 2)).set 2 (.int .i64 (ep+1)))=cs at *
   have ah:=Zh Sg
   clear Sg
   go_wp2_with (first|(go_at_call 79;refine CC.o.mono ?_;rintro e w5 ⟨rfl,dV,sX⟩;have Ie:Hid (Fr w1 (fun k=>k=b∨k=g) w1 w5):=zn.o.trans (sX.mono zn.o.size (fun _ _ h=>Wi h));have JR:=(Ie.o.block (w.heap.size+1) (ZV HZ.o) Zo).trans HZ.o;have J7:Hid (Yh w5 cs (Ul (ep+1) [] (DO sv).1.1 0)):=cg.o.fr sX (fun k hk=>fJ.o k (Wi hk));have HD5:Hid (Yd w5 g b (DO sv).1.2 (ep+1)):=⟨dV,fN.o.room.fr sX (Zw _) (fun h=>wW (Eq.symm h)) (fun k c fr hk=>fJ.o.ne Zi k c fr (Wi hk))⟩;have hi:=QM J7.o;have hold:=QL J7.o;have Pr:=J7.o.one;clear dV sX CC)|(with_reducible refine ZU 100 (.tmp 4) (.tmp 29) rfl ?_;refine ZW rfl 100 (.tmp 4) (.tmp 29) rfl rfl (w.heap.size+1) cs.toArray rfl rfl 100 Xv JR hi hold Pr ?_))
   refine VJ (v:= .agg cs.toArray) ?_ rfl ?_
   ·exact nU
   exact UL.o _ cs _ _ Ie.o J7.o HD5.o I6.o
  ·rw [ZQ he] at I6
   have hb:((DO sv).2 != 0)=true:=by rw [R6];exact he
   have Y0:((DO sv).2 == 0)=false:=by rw [WQ];exact he
   have HDR:Hid (Yd w2 g b R ep):=by have h:=fN.o;rw [HDOR.o he] at h;exact h
   clear fN
   go_wp2_with (first|(go_at_call 78;refine (QK 6 (DO sv).2 _).mono ?_;rintro e w5 ⟨⟨cs,rfl,PV⟩,Lj⟩;have Ie:Hid (Fr w1 (fun k=>k=b∨k=g) w1 w5):=zn.o.trans (Fr.Z8 _ (Lj.mono zn.o.size));have JR:=(Ie.o.block (w.heap.size+1) (ZV HZ.o) Zo).trans HZ.o;have HD5:=Zh (HDR.o.below Lj);have hi:=QM PV;have hold:=QL PV;have Pr:=PV.one;have J7:=Zh PV;clear PV Lj)|(with_reducible refine ZU 100 (.tmp 4) (.tmp 25) rfl ?_;refine ZW rfl 100 (.tmp 4) (.tmp 25) rfl rfl (w.heap.size+1) cs.toArray rfl rfl 100 Xv JR hi hold Pr ?_))
   refine VJ (v:= .agg cs.toArray) ?_ rfl ?_
   ·exact nU
   exact UL.o _ cs _ _ Ie.o J7.o HD5.o I6.o
structure O7 where
 bad:Int
 XG:Int
 unknown:Int
 refused:Int
def qh:O7:=⟨0,0,0,0⟩
def O7.add (c:O7) (k u:Int):O7:=
 ⟨if k=3 then c.bad+1 else c.bad,if k=4 then c.XG+1 else c.XG,(if k=5 then c.unknown+1 else c.unknown)+u,if k=6 then c.refused+1 else c.refused⟩
structure O7.Below (c:O7) (n:Int):Prop where
 bad:0≤c.bad∧c.bad≤n
 XG:0≤c.XG∧c.XG≤n
 unknown:0≤c.unknown∧c.unknown≤n
 refused:0≤c.refused∧c.refused≤n
end Go.Proofs.By
namespace Go.Proofs.By
open Go.RowKit Go.Proofs.Heap
open Go.Proofs.Rm (YG YD Room ZT Inv uI I_)
theorem y_ (w:World):Calls Tryz.prog 40 #[] w fun e w'=>(∃ d b,e = .returned (.pointer (some ⟨d,0,none⟩))∧Yd w' d b Rm.empty 0∧w.heap.size≤d∧w.heap.size≤b)∧Below w w w':=by
 have C:=Zh (uI w)
 go_enter Tryz.func40,Tryz.ntmps40
 go_wp2_with (go_at_call 69;refine C.o.mono ?_;rintro e w2 ⟨rfl,Xt,Y0⟩;have HR:=Zh Xt;have HB:=Zh Y0;clear Xt Y0)
 go_ret
 exact ⟨⟨_,w.heap.size,rfl,⟨Z7 w2 _,HR.o.below (Z' w2 _)⟩,HB.o.size,Zw _⟩,ZC HB.o (Zw _) _⟩
end Go.Proofs.By
