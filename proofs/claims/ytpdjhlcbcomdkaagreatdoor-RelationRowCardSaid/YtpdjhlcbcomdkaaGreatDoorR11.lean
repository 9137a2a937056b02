/- Part of a proof. -/
import Derived.Test.YtpdjhlcbcomdkaaGreatDoorR07
import Derived.Test.YtpdjhlcbcomdkaaGreatDoorR10
set_option linter.unusedVariables false
set_option linter.unusedSimpArgs false
set_option maxRecDepth 100000
set_option maxHeartbeats 16000000
open Go Go.Q Go.Qr
namespace Go.Proofs.Rm
open Go.RowKit Go.Proofs.Heap Go.Proofs.Mem
theorem slice_inj {a b:Option Addr} {n m c d:Nat} (h:Value.slice a n c = .slice b m d):a=b∧c=d:=by
 injection h with h1 h2 h3
 exact ⟨h1,h3⟩
theorem u9 {w:World} {a:Option Addr} {c:Nat} {l:List Vc} (h:Row w 103 (.slice a l.length c) l.length (l.flatMap Yx)) (hl:0<l.length):∃ g off,a=some ⟨g,off,none⟩∧∀ (i:Nat) (x:Vc),l[i]?=some x →
  w.cell? ⟨g,off+i*2,none⟩=some (.int .i64 x.num)∧w.cell? ⟨g,off+i*2+1,none⟩=some (.string (str x.name)):=by
 exact Yx136
theorem OE {w:World} {a:Option Addr} {c:Nat} {l:List Va} (h:Row w 105 (.slice a l.length c) l.length (l.flatMap Zt)) (hl:0<l.length):∃ g off,a=some ⟨g,off,none⟩∧∀ (i:Nat) (x:Va),l[i]?=some x →
  w.cell? ⟨g,off+i*4,none⟩=some (.int .i64 x.peer)∧w.cell? ⟨g,off+i*4+1,none⟩=some (.int .i64 x.source)∧w.cell? ⟨g,off+i*4+2,none⟩=some (.int .i64 x.want)∧w.cell? ⟨g,off+i*4+3,none⟩=some (.bool x.ZQ):=by
 obtain ⟨g,off,cap,h1,_,_,_,h5⟩:=xH Zt 4 (fun _=>rfl) Zo h hl;exact ⟨g,off,(slice_inj h1).1,fun i x hx=>⟨h5 i x hx 0 Zo,h5 i x hx 1 Zo,h5 i x hx 2 Zo,h5 i x hx 3 Zo⟩⟩
theorem Sw {w:World} {a:Option Addr} {c:Nat} {l:List (Wl × Value)} (h:Row w 108 (.slice a l.length c) l.length (l.flatMap Zq)) (hl:0<l.length):∃ g off,a=some ⟨g,off,none⟩∧∀ (i:Nat) (x:Wl × Value),l[i]?=some x →
  w.cell? ⟨g,off+i*4,none⟩=some (.int .i64 x.1.num)∧w.cell? ⟨g,off+i*4+1,none⟩=some (.int .i64 x.1.own)∧w.cell? ⟨g,off+i*4+2,none⟩=some x.2∧w.cell? ⟨g,off+i*4+3,none⟩=some (.bool x.1.ZE):=by
 obtain ⟨g,off,cap,h1,_,_,_,h5⟩:=xH Zq 4 (fun _=>rfl) Zo h hl;exact ⟨g,off,(slice_inj h1).1,fun i x hx=>⟨h5 i x hx 0 Zo,h5 i x hx 1 Zo,h5 i x hx 2 Zo,h5 i x hx 3 Zo⟩⟩
open Go.Proofs.NM (may key Xz)
theorem Dk {α:Type} (f:α→List Value) (k:Nat) (hk:∀ x,(f x).length=k) (gN:0<k) {w:World} {v:Value} {n:Nat} {l:List α} (h:XR w v n (l.flatMap f)) (hl:0<l.length) :
  ∃ g off cap,v = .slice (some ⟨g,off,none⟩) n cap∧n≤cap∧cap≤maxLen∧g<w.heap.size∧∀ (i:Nat) (x:α),l[i]?=some x→∀ j,j<k→w.cell? ⟨g,off+i*k+j,none⟩=(f x)[j]?:=by
 exact Yx80
structure V8 (R:Room):Prop where
 short:∀ n,(R.src n).ss.length≤1000000
theorem Nw {R:Room} (h:V8 R) (n:Nat) (x:Src) (hx:x.ss.length≤1000000):V8 (R.Y5 n x):=⟨fun m=>by rw [Wy];split;exact hx;exact h.short m⟩
theorem EM {R:Room} (h:V8 R) (n:Nat):V8 (gone R n).2:=⟨fun m=>by rw [O6];split;exact Tk _;exact h.short m⟩
theorem xQ {R:Room} (h:V8 R) (p:Nat):V8 (leave R p).2:=by
 have h1:V8 (ZM p R 9).2:=⟨fun m=>by rw [(Rs R p 9).2];exact h.short m⟩;exact ⟨fun m=>by show ((ZI (ZM p R 9).2 p 9).2.src m).ss.length≤_;rw [Ow];split;exact Tk _;exact h1.short m⟩
theorem xR {R:Room} {o:Op} (h:V8 R) (ok:Ok R o) (sv:Value):V8 (turns R o sv).2:=by
 unfold turns;dsimp only;by_cases k2:o.kind=2
 ·rw [ZR k2];exact ⟨h.short⟩
 rw [Z4 k2];by_cases k3:o.kind=3
 ·rw [ZR k3];exact xQ h _
 rw [Z4 k3];by_cases k4:o.kind=4
 ·rw [ZR k4];exact Nw h _ _ (by have:=(G8 (ok.Dc k4)).2.1;show o.ZK.length≤_;omega)
 rw [Z4 k4];by_cases k5:o.kind=5
 ·rw [ZR k5];exact EM h _
 rw [Z4 k5];by_cases k6:o.kind=6
 ·rw [ZR k6];exact ⟨h.short⟩
 rw [Z4 k6];by_cases k7:o.kind=7
 ·rw [ZR k7];exact ⟨h.short⟩
 rw [Z4 k7];by_cases k8:o.kind=8
 ·rw [ZR k8];exact Nw h _ _ (h.short _)
 rw [Z4 k8];by_cases k9:o.kind=9
 ·rw [ZR k9];exact Nw h _ _ (h.short _)
 rw [Z4 k9];split
 ·exact ⟨h.short⟩
 split
 ·exact ⟨h.short⟩
 split
 ·exact ⟨h.short⟩
 ·exact h
theorem Hg {R:Room} (h:V8 R) (o:Op) (sv:Value):V8 (Wm R o sv).1.2:=by
 unfold Wm;by_cases h0:X4 R o=0
 ·rw [Z4 (by simpa using h0)];exact xR h (Pw h0) sv
 ·rw [ZR h0];exact h
theorem TJ:V8 empty:=⟨fun _=>Tk _⟩
theorem Nv {R:Room} (h:V8 R) (p x:Int):V8 (YS R p x).1.2:=by
 unfold YS;split
 ·exact h
 ·exact EM h _
end Go.Proofs.Rm
namespace Go.Proofs.Rm
open Go.RowKit Go.Proofs.Heap Go.Proofs.Mem
open Go.Proofs.NM (may key Xz)
theorem Oa (b:Nat) (R:Room) (n:Nat) (w:World) (hR:ZT w b R) (hI:Inv R) (hl:∀ n,(R.src n).ss.length≤1000000) :
  Calls Tryz.prog 81 (Qk (some ⟨b,0,none⟩) n) w fun e w'=>
   (∃ (nm ow:Int) (a:Option Addr) (k c:Nat) (mu has:Bool),e = .returned (.tuple (Q1 (Qq nm ow a k c mu) has))∧has=(R.src n).there∧(has=true→ow=(R.src n).own))∧Below w w w':=by
 cases ht:(R.src n).there
 ·refine (rD b R n w hR ?_).mono ?_
  ·rw [Wz,ht,Bool.and_false]
  ·rintro e w' ⟨rfl,hb⟩;exact ⟨⟨_,_,_,_,_,_,_,rfl,rfl,fun h=>by cases h⟩,hb⟩
 ·have hs:=hI.YU n ht;refine (vK b R n w hR ⟨hs.1,hs.2.1⟩ ht (hl n)).mono ?_;rintro e w' ⟨⟨v',rfl,⟨a,c,rfl,_⟩⟩,hb⟩;exact ⟨⟨_,_,_,_,_,_,_,rfl,rfl,fun _=>rfl⟩,hb⟩
end Go.Proofs.Rm
namespace Go.Proofs.By
open Go.RowKit Go.Proofs.Heap
open Go.Proofs.Rm (YF YB Room ZT Inv of P7 of_lt JZ Oa)
theorem Rx {P:Program} {ops:Array Oper} {o:Oper} {a:Act} {w:World} {K:Act→World→Prop} {Q:Exit→Act→World→Prop} {E':Prop} (Mb:o.guard=none) (ty:TypeId) (x:Operand) (ho:o.op = .load ty x)
  (g:Nat) (hx:a.eval x = .pointer (some ⟨g,0,none⟩)) (t:TypeId) (cs:Array Value) (fr:Nat × Nat) (d:TypeDesc) (hg:w.heap[g]?=some (.cells cs t fr))
  (hu:P.underlying ty=some d) (hd:(match d with | .struct _ | .array _ _=>true|_=>false)=true) (hi:(P.info? ty).map (·.size)=some cs.size)
  (h:K (a.put o.dst (.agg cs)) w):if Region.wanted o (yielded ops a.tmps)=true then Oper.wp P o a w K Q else E':=by
 have hw:Region.wanted o (yielded ops a.tmps)=true:=by simp [Region.wanted,Mb]
 rw [ZR hw];exact wp_load_row ty x ho g hx t cs fr d hg hu hd hi h
theorem vp {w:World} {cs:List Value} {T:Taken} (h:Yd w cs T):cs.toArray.size=22:=by rw [List.size_toArray];exact h.size
theorem P_ {w:World} {cs:List Value} {T:Taken} (h:Yd w cs T):(Xr:Array Value).size=cs.toArray.size:=by rw [vp h];rfl
theorem QA {w:World} {cs:List Value} {T:Taken} (h:Yd w cs T):(Tryz.prog.info? 100).map (·.size)=some cs.toArray.size:=by rw [vp h];kernel_rfl
theorem Yd.setRow {w:World} {cs:List Value} {T:Taken} (h:Yd w cs T) {g:Nat} {c:Array Value} {f:Nat × Nat} (hg:w.heap[g]?=some (.cells c 100 f)) (c':Array Value):Yd (w.setRow g c') cs T:=
 h.fr (Tq w g c') (fun k hk=>by have hk:k=g:=hk;subst hk;exact ⟨_,_,_,hg,by decide,by decide,by decide,by decide,by decide,by decide,by decide⟩)
theorem sW (g b:Nat) (R:Room) (ep peer:Int) (P:KI) (d:FJ) (cv ev pv:Value) (w:World) (hD:Ya w g b R ep) (hI:Inv R) (hl:∀ n,(R.src n).ss.length≤1000000) (hP:Vy w P cv ev pv) :
  Calls Tryz.prog 106 (Ji (some ⟨g,0,none⟩) peer (V_ P d cv ev pv).toArray) w fun e w'=>(∃ cs:List Value,e = .returned (.agg cs.toArray)∧Yd w' cs (Vg R ep peer P d))∧Below w w w':=by
 obtain ⟨⟨ca,cc,rfl⟩,⟨ea,ec,rfl⟩,⟨pa,pc,rfl⟩⟩:=hP.form;obtain ⟨n,O2,O3,hO⟩:∃ (n:Nat) (O2:Int) (O3:Bool),of R P.YE=((n:Int),O2,O3):=⟨(of R P.YE).1.toNat,(of R P.YE).2.1,(of R P.YE).2.2,by rw [Int.toNat_of_nonneg (of_lt R P.YE).1]⟩
 have HX:Hid (Vg R ep peer P d=if (O3 && decide ((R.src n).own=peer)) && decide (O2=d.ZH) then {UB with XC:=⟨1,(n:Int),ep,0⟩,XW:=P,WJ:=d} else Yb 5 0):=by
  show Vg R ep peer P d=_;unfold Vg owned;rw [hO];rfl
 have HTH:Hid (O3=true→(R.src n).there=true):=by
  show _→_;intro h3;obtain ⟨m,_,h1,_,h2⟩:=P7 (R:=R) (x:=P.YE) (by rw [hO];exact h3);rw [hO] at h2;have h4:(n:Int)=(m:Int):=congrArg (·.1) h2;have h4:n=m:=by omega
  rw [h4];exact h1
 generalize Vg R ep peer P d=X at *
 have Bh:=hD.cells.2.2.2
 have Ac:((w.alloc (.cells (Jp P ca cc ea ec pa pc d) 97)).alloc (.cells Xr 100)).heap[w.heap.size]?=some (.cells (Jp P ca cc ea ec pa pc d) 97 (0,0)):=by
  rw [(Z' _ _).block _ BJ];exact Z8 w _
 have hz:((w.alloc (.cells (Jp P ca cc ea ec pa pc d) 97)).alloc (.cells Xr 100)).heap[w.heap.size+1]?=some (.cells Xr 100 (0,0)):=by
  have h:=Z8 (w.alloc (.cells (Jp P ca cc ea ec pa pc d) 97)) (.cells Xr 100);have e:(w.alloc (.cells (Jp P ca cc ea ec pa pc d) 97)).heap.size=w.heap.size+1:=by show (w.heap.push _).size=_;rw [OI]
  rw [e] at h;exact h
 have Kz:Below w w ((w.alloc (.cells (Jp P ca cc ea ec pa pc d) 97)).alloc (.cells Xr 100)):=ZF (Z' w _) (Zw _) _;have Bd:Hid (Ya ((w.alloc (.cells (Jp P ca cc ea ec pa pc d) 97)).alloc (.cells Xr 100)) g b R ep):=hD.below Kz;have HP1:Hid (Vy ((w.alloc (.cells (Jp P ca cc ea ec pa pc d) 97)).alloc (.cells Xr 100)) P (.slice ca P.VN.length cc) (.slice ea P.ext.length ec) (.slice pa P.ZG.length pc)):=hP.below Kz;have JX:=Zh Ac;have HZ:=Zh hz;have RM:=Zh Kz;clear hD hP Ac hz Kz;dsimp only [V_];go_enter Tryz.func106,Tryz.ntmps106;go_upto_region 1 with fail
 generalize ((w.alloc (.cells (Jp P ca cc ea ec pa pc d) 97)).alloc (.cells Xr 100))=w1 at *
 have COF:Hid (Calls Tryz.prog 127 (Jg (some ⟨b,0,none⟩) P.YE) w1.drew fun e w'=>e = .returned (.tuple (Q5 (n:Int) O2 O3))∧Below w1 w1 w'):=by
  have h:=JZ b R P.YE w1.drew (Bd.o.room.below (YJ _ _).drew);rw [hO] at h;exact h.mono (fun _ _ ⟨q1,q2⟩=>⟨q1,(YJ _ _).drew.trans q2⟩)
 have Zz:Hid (∀ w',Below w1 w1 w'→w'.cell? ⟨g,0,none⟩=some (.pointer (some ⟨b,0,none⟩))∧w'.cell? ⟨w,4,none⟩=some (.int .u32 P.YE)∧Below w1 w1 w'):=fun w' h=>
  ⟨(Bd.o.below h).cells.1,by rw [cell_of ((h.block w.heap.size (ZW JX.o)).trans JX.o) 4];rfl,h⟩
 clear hO;refine SX ?_;refine wp_region_held_drew (S:=(fun w'=>w'.cell? ⟨g,0,none⟩=some (.pointer (some ⟨b,0,none⟩))∧w'.cell? ⟨w,4,none⟩=some (.int .u32 P.YE)∧Below w1 w1 w')) ZB ?_ (fun Ye=>?_)
 ·(try dsimp only)
  exact Zz.o _ (YJ _ _).drew
 refine YA 0 (h:=YA 1 (h:=YA 2 (h:=YA 3 (h:=YA 4 (h:=YA 5 (h:=YA 6 (h:=?_)))))));refine R7 7 (h:=fun K hK=>?_);go_simp;refine COF.o.mono ?_;rintro e w2 ⟨rfl,Y7⟩;have X8:=Zh Y7;clear Y7;go_wp2_with fail
 refine hK.out _ _ ?_ (fun XU=>?_)
 ·(try dsimp only)
  exact Zz.o _ X8.o
 clear hK K;try simp only [Z_.pt]
 refine YA 8 (h:=YA 9 (h:=YA 10 (h:=YA 11 (h:=YA 12 (h:=YA 13 (h:=YA 14 (h:=?_)))))));refine wpAnyH_done ZB ?_ _;refine RA ?_;have CSR:Hid (Calls Tryz.prog 81 (Qk (some ⟨b,0,none⟩) (n:Int)) w2 fun e w'=>(∃ (nm ow:Int) (a:Option Addr) (k c:Nat) (mu has:Bool),e = .returned (.tuple (Q1 (Qq nm ow a k c mu) has))∧has=(R.src n).there∧(has=true→ow=(R.src n).own))∧Below w2 w2 w'):=Oa b R n w2 (Bd.o.room.below X8.o) hI hl;have cg2:=(Zz.o w2 X8.o).1;clear Ye XU COF Zz;go_upto_region 3 with (go_at_call 81;refine CSR.o.mono ?_;rintro e w3 ⟨⟨nm,ow,a,k,c,mu,has,rfl,Ff,Eh⟩,VJ⟩;have Wc:=Zh (X8.o.trans (VJ.mono X8.o.size));have HH:=Zh Ff;have Mq:=Zh Eh;clear VJ Ff Eh)
 have Ux:Hid (Below w1 w1 (w3.alloc (.cells (Qq nm ow a k c mu) 108))):=ZF Wc.o (Zw _) _;have cl:=cell_of ((Wc.o.block w.heap.size (ZW JX.o)).trans JX.o) 11;simp only [SE,SD,R8] at cl;have hxl:w.heap.size<w3.heap.size:=OS (ZW JX.o) Wc.o.size;clear CSR X8 cg2;cases O3 with
 | false=>
  rw [Z4 Zi] at HX;exact bI
 | true=>
  have Eh:ow=(R.src n).own:=Mq.o (by rw [HH.o];exact HTH.o rfl);subst Eh;clear Mq HH HTH;by_cases hp:(R.src n).own=peer
  ·by_cases lD:O2=d.ZH
   ·subst hp;subst lD;rw [ZR Zi] at HX;go_upto_region 5 with fail
    clear cl hxl;generalize w3.alloc (.cells (Qq nm (R.src n).own a k c mu) 108)=w4 at *
    have cg4:=(Bd.o.below Ux.o).cells.2.1;have LK:=(Ux.o.block w.heap.size (ZW JX.o)).trans JX.o;have uP:=(Ux.o.block (w.heap.size+1) (ZW HZ.o)).trans HZ.o;have HP4:=Zh (HP1.o.below Ux.o);have hbw4:Below w w w4:=RM.o.trans (Ux.o.mono RM.o.size);clear Bd HP1 JX HZ Ux Wc RM hI hl;refine SX ?_;refine wp_region_held_drew (S:=(fun w'=>w'.cell? ⟨g,1,none⟩=some (.int .i64 ep))) ZB ?_ (fun Ye=>?_)
    ·(try dsimp only)
     exact cg4
    refine YA 0 (h:=YA 1 (h:=YA 2 (h:=YA 3 (h:=YA 4 (h:=YA 5 (h:=?_))))));refine R7 6 (h:=fun K hK=>?_);refine Rx Zr 97 (.tmp 5) Zr w.heap.size Zr 97 (Jp P ca cc ea ec pa pc d) (0,0) _ LK Tryz.underlying97 rfl ZB ?_;refine hK.out _ _ ?_ (fun XU=>?_)
    ·(try dsimp only)
     first|exact cg4|exact cg5
    clear hK K;try simp only [Z_.pt]
    refine YA 7 (h:=?_);refine R7 8 (h:=fun K hK=>?_);refine Sq Zr 100 (.tmp 6) (.tmp 56) Zr Zr (w.heap.size+1) (Jy 1 (n:Int) ep 0 P ca cc ea ec pa pc d none 0 0 none 0 0 0) Zr Zr 100 _ uP ZB ZB ZB ?_;have cg5:(w4.setRow (w.heap.size+1) (Jy 1 (n:Int) ep 0 P ca cc ea ec pa pc d none 0 0 none 0 0 0)).cell? ⟨g,1,none⟩=some (.int .i64 ep):=by rw [World.cell?_of_block (w:=w4) (setRow_other w4 _ g _ Zo)];exact cg4
    refine hK.out _ _ ?_ (fun VG=>?_)
    ·(try dsimp only)
     first|exact cg4|exact cg5
    clear hK K;try simp only [Z_.pt]
    refine wpAnyH_done ZB ?_ _;refine RA ?_;go_wp2_with fail
    refine VD (v:= .agg (Jy 1 (n:Int) ep 0 P ca cc ea ec pa pc d none 0 0 none 0 0 0)) ?_ rfl ?_
    ·exact results_cell_row Zr _ _ (w.heap.size+1) 100 (Jy 1 (n:Int) ep 0 P ca cc ea ec pa pc d none 0 0 none 0 0 0) (0,0) _ Zr (setRow_heap w4.drew _ _ _ _ _ uP) Tryz.underlying100 rfl ZB
    refine ⟨⟨(Jy 1 (n:Int) ep 0 P ca cc ea ec pa pc d none 0 0 none 0 0 0),rfl,?_⟩,Z3 hbw4.drew (Ix _) _⟩;rw [HX.o];have HT:Yd w4.drew (Jy 1 (n:Int) ep 0 P ca cc ea ec pa pc d none 0 0 none 0 0 0) {UB with XC:=⟨1,(n:Int),ep,0⟩,XW:=P,WJ:=d}:=⟨_,_,_,_,_,rfl,HP4.o.below (YJ _ _).drew,YI.nil _,Row.nil _ _⟩;exact HT.setRow uP _
   ·rw [Z4 (by simp [lD])] at HX;have hb:(O2 != d.ZH)=true:=by rw [RQ];exact lD
    have Y7:(O2 == d.ZH)=false:=by rw [WR];exact lD
    subst hp;exact bI
  ·rw [Z4 (by simp [hp])] at HX;have hb:((R.src n).own != peer)=true:=by rw [RQ];exact hp
   have Y7:((R.src n).own == peer)=false:=by rw [WR];exact hp
   exact bI
theorem vP:∀ x:Fin 256,bits .and .u8 ((x.val:Nat):Int) 60=((x.val / 4 % 16*4:Nat):Int):=by decide +kernel
theorem b9 (n:Nat) (hn:n<256):bits .and .u8 (n:Int) 60=((n / 4 % 16*4:Nat):Int):=vP ⟨n,hn⟩
def nK (d:FJ):Value:= .agg (Js d)
theorem yF (v:Value) (b:List UInt8) (w:World) (hv:X6 w v b) :
  Calls Tryz.prog 126 #[v] w fun e w'=>e = .returned (.tuple (Qo (Qd (Yy b).1.ZH (Yy b).1.key (Yy b).1.start (Yy b).1.frame) (Yy b).2))∧Below w w w':=by
 have hlen:=hv.len;have HV:Hid (∀ w',Below w w w'→X6 w' v b):=fun w' h=>hv.below h
 have HE:Hid (Yy b=if b.length<4 then (Tu,2) else if at8 b 0 / 4 % 16≠0∨at8 b 0 % 4=3∨at8 b 1≠90 then (Tu,1) else (⟨(at8 b 0 % 4:Nat),decide (128≤at8 b 0),decide (at8 b 0 / 64 % 2=1),get b 2 2⟩,0)):=rfl;obtain ⟨a,c,rfl,R4,-⟩:=id hv;clear hv;have Uk:=Z' w (.cells (Qd 0 false false 0) 81);have Ir:=Zh (HV.o _ Uk);generalize Yy b=X at *
 by_cases h1:b.length<4
 ·obtain rfl:X=(Tu,2):=by rw [HE.o,ZR h1]
  clear HE HV Ir;go_enter Tryz.func126,Tryz.ntmps126;go_wp2;exact VD (v:= .tuple (Qo (Qd 0 false false 0) 2)) (by simp [results,Tryz.results126,go_sem]) rfl ⟨rfl,Uk⟩
 obtain ⟨g,off,cap,e1,_,_,hc⟩:=RR (HV.o w (YJ _ _)) Zo;cases e1;obtain ⟨_,_,_,e2,_,_,cM⟩:=RR Ir.o Zo;cases e2;have d0:(w.alloc (.cells (Qd 0 false false 0) 81)).cell? ⟨g,off,none⟩=some (.int .u8 (at8 b 0:Int)):=cM 0 Zo;have d1:=cM 1 Zo;have l1:decide ((b.length:Int)<4)=false:=WI Zo;have QI:=Xl b 0;have SJ:=Xl b 1;have a60:=b9 (at8 b 0) QI;have a3:=and_3 (at8 b 0) QI;clear hc cM;by_cases h2:at8 b 0 / 4 % 16≠0∨at8 b 0 % 4=3∨at8 b 1≠90
 ·obtain rfl:X=(Tu,1):=by rw [HE.o,Z4 h1,ZR h2]
  clear HE HV Ir;by_cases h3:at8 b 0 / 4 % 16≠0
  ·have q3:(((at8 b 0 / 4 % 16*4:Nat):Int) != 0)=true:=by rw [RQ];omega
   clear h2 h3;generalize at8 b 0 / 4 % 16*4=y at *
   exact bQ
  ·have hz:at8 b 0 / 4 % 16*4=0:=by omega
   rw [hz] at a60;by_cases h4:at8 b 0 % 4=3
   ·rw [h4] at a3;clear h2 h3 h4 hz;exact bQ
   ·have q4:(((at8 b 0 % 4:Nat):Int) == 3)=false:=by rw [WR];omega
    have q5:(((at8 b 1:Nat):Int) != 90)=true:=by rw [RQ];omega
    clear h2 h3 h4 hz;generalize at8 b 0 % 4=y at *
    exact bQ
 ·have CG:=N8 _ b 2 2 _ Ir.o;have hn:get b 2 2<65536:=U5 b 2 2 2 Zd;have hz:at8 b 0 / 4 % 16*4=0:=by omega
  rw [hz] at a60;have q4:(((at8 b 0 % 4:Nat):Int) == 3)=false:=by rw [WR];omega
  have q5:(((at8 b 1:Nat):Int) != 90)=false:=by rw [bne_eq_false_iff_eq];omega
  have a128:=uq (at8 b 0) QI;have a64:=b_ (at8 b 0) QI
  obtain rfl:X=(⟨(at8 b 0 % 4:Nat),(((at8 b 0 / 128 % 2*128:Nat):Int) != 0),(((at8 b 0 / 64 % 2*64:Nat):Int) != 0),get b 2 2⟩,0):=by
   rw [HE.o,Z4 h1,Z4 h2]
   congr 2
   ·rw [Bool.eq_iff_iff,Pz,RQ];omega
   ·rw [Bool.eq_iff_iff,Pz,RQ];omega
  dsimp only;have qo:=Zh CG
  have Zz:Hid (∀ w',Below w w w'→w'.cell? ⟨g,off,none⟩=some (.int .u8 (at8 b 0:Int))∧Below w w w'):=fun w' h=>by
   obtain ⟨_,_,_,e,_,_,hc⟩:=RR (HV.o w' h) Zo;cases e;exact ⟨hc 0 Zo,h⟩
  clear HE HV Ir h2 hz CG;have hy4:at8 b 0 % 4<4:=by omega
  have hbI:(0:Int)<(b.length:Int):=by omega
  have hbN:0<b.length:=by omega
  have hbZ:¬b.length=0:=by omega
  generalize get b 2 2=n at *
  generalize at8 b 0 / 128 % 2*128=y1 at *
  generalize at8 b 0 / 64 % 2*64=y2 at *
  generalize at8 b 0 % 4=y at *
  generalize b.length=N at *
  have hnw:IntKind.u16.wrap (n:Int)=(n:Int):=by rw [IntKind.wrap_u16];omega
  have hyw:IntKind.i64.wrap (y:Int)=(y:Int):=Tm _ Zo;go_enter Tryz.func126,Tryz.ntmps126;go_wp2_with (go_at_call 155;refine qo.o.mono ?_;rintro e w' ⟨rfl,rfl⟩)
  go_region_held3 (fun w'=>w'.cell? ⟨g,off,none⟩=some (.int .u8 (at8 b 0:Int))∧Below w w w') (first|exact Zz.o _ (by first|exact (Z' w _).drew|with_reducible assumption|exact Below.drew WS|exact Below.setCell WS Zi _|exact Below.setCell (Below.drew WS) Zi _)|go_keep) (first|fail)
  go_wp2;exact VD (v:= .tuple (Qo (Qd y ((y1:Int) != 0) ((y2:Int) != 0) n) 0)) (by simp [results,Tryz.results126,go_sem,hnw]) rfl ⟨rfl,(Z' w _).drew⟩
end Go.Proofs.By
namespace Go.Proofs.By
open Go.RowKit Go.Proofs.Heap
theorem xI (v:Value) (b:List UInt8) (w:World) (hv:X6 w v b) :
  Calls Tryz.prog 125 #[v] w fun e w'=>(∃ a,e = .returned (.tuple #[a,.int .i64 (YM b).2])∧N0 w' a (YM b).1)∧Below w w w':=by
 by_cases h:(looks b).2=0
 ·exact tN v b w hv h
 ·exact xJ v b w hv h
def AZ (b:List UInt8):Ev × Int:=if (YM b).2≠0 then (.none,(YM b).2) else if (Yy (YM b).1.ZG).2≠0 then (.none,(Yy (YM b).1.ZG).2) else (.X5 (YM b).1 (Yy (YM b).1.ZG).1,0)
theorem Hf {b:List UInt8} (h1:¬512<b.length) (h2:¬b.length<2) (h3:¬(192≤at8 b 1∧at8 b 1≤223)):XN b=AZ b:=by
 unfold XN AZ;rw [Z4 h1,Z4 h2,Z4 h3]
theorem Lx (v:Value) (b:List UInt8) (w:World) (hv:X6 w v b) (h3:¬(192≤at8 b 1∧at8 b 1≤223)) :
  Calls Tryz.prog 105 #[v] w fun e w'=>(∃ a,e = .returned (.tuple #[a,.int .i64 (XN b).2])∧vv w' a (XN b).1)∧Below w w w':=by
 have hlen:=hv.len;by_cases h1:512<b.length
 ·have HX:Hid (XN b=(.none,5)):=by show _=_;unfold XN;rw [ZR h1]
  exact bR
 by_cases h2:b.length<2
 ·have HX:Hid (XN b=(.none,2)):=by show _=_;unfold XN;rw [Z4 h1,ZR h2]
  exact bR
 rw [Hf h1 h2 h3];have HC:=Zh (xI v b w hv);have HX:Hid (AZ b=if (YM b).2≠0 then (.none,(YM b).2) else if (Yy (YM b).1.ZG).2≠0 then (.none,(Yy (YM b).1.ZG).2) else (.X5 (YM b).1 (Yy (YM b).1.ZG).1,0)):=rfl;obtain ⟨g,off,c,rfl,R4,zZ,W8⟩:=RR hv Zo;have d1:=W8 1 Zo;clear W8 hv R4 zZ;have hbI:(1:Int)<(b.length:Int):=by omega
 have hbN:1<b.length:=by omega
 generalize AZ b=X at *
 generalize YM b=Y at *
 obtain ⟨P,er⟩:=Y;dsimp only at HC HX;have gS:=fun (x:Value) (w:World)=>run_makeInterface (P:=Tryz.prog) w 97 x ZB
 have hk:at8 b 1<192∨223<at8 b 1:=by omega
 generalize at8 b 1=kd at *
 go_enter Tryz.func105,Tryz.ntmps105;rcases hk with hk|hk
 ·have l1:decide ((192:Int)≤(kd:Int))=false:=WI Zo;exact Yx10
 ·have l1:decide ((192:Int)≤(kd:Int))=true:=Wi Zo;have l2:decide ((kd:Int)≤223)=false:=WI Zo;exact Yx10
open Go.Proofs.Rm (YF YB Room ZT Inv Y_ Ty)
theorem MK {P:Program} (w:World) (t xt:TypeId) (v:Value) (d:TypeDesc) (hu:P.underlying t=some d) (hd:(match d with | .interface _=>false|_=>true)=true):(Instr.typeAssert (.iface t v) xt t true).run P w = .ok (.tuple #[v,.bool true]) w:=by
 unfold Instr.typeAssert;simp only [Sem.run_bind,run_underlying hu w,Result.andThen_ok];cases d <;> simp_all
theorem He {b:List UInt8} (h3:¬(192≤at8 b 1∧at8 b 1≤223)) (h:(XN b).2=0):∃ p d,(XN b).1 = .X5 p d:=by
 by_cases h1:512<b.length
 ·unfold XN at h;rw [ZR h1] at h;cases h
 by_cases h2:b.length<2
 ·unfold XN at h;rw [Z4 h1,ZR h2] at h;cases h
 rw [Hf h1 h2 h3] at h ⊢;unfold AZ at h ⊢;by_cases h4:(YM b).2≠0
 ·rw [ZR h4] at h;exact absurd h h4
 rw [Z4 h4] at h ⊢;by_cases h5:(Yy (YM b).1.ZG).2≠0
 ·rw [ZR h5] at h;exact absurd h h5
 rw [Z4 h5];exact ⟨_,_,rfl⟩
theorem Gg (g b:Nat) (R:Room) (ep kd peer src ly:Int) (nm:ByteArray) (sa ba:Option Addr) (sl sc bl bc:Nat) (l:List UInt8) (w:World) (hD:Ya w g b R ep) (hI:Inv R) (hl:∀ n,(R.src n).ss.length≤1000000) (hv:X6 w (.slice ba bl bc) l) (h3:¬(192≤at8 l 1∧at8 l 1≤223)) :
  Calls Tryz.prog 76 (Qi (some ⟨g,0,none⟩) (Qa kd peer src ly nm sa sl sc ba bl bc)) w fun e w'=>(∃ cs:List Value,e = .returned (.agg cs.toArray)∧Yd w' cs (YG R ep peer l).1.1)∧Ya w' g b (YG R ep peer l).1.2 (YG R ep peer l).2∧Fr w (fun k=>k=b∨k=g) w w':=by
 have HX:Hid (YG R ep peer l=if (XN l).2≠0 then ((Yb 3 (XN l).2,R),ep) else if !Y_ R peer then ((Yb 4 0,R),ep) else match (XN l).1 with
  | .X5 p d=>((Vg R ep peer p d,R),ep)
  | .XX l=>((Ub (ep+1) l (ZC peer l R).1.1 (ZC peer l R).2,(ZC peer l R).1.2),ep+1)
  | .none=>((Ub (ep+1) [] [] 0,R),ep+1)):=rfl
 have Mr:=Zh (He (b:=l) h3);have Bh:=hD.cells.2.2.2
 have Ac:((w.alloc (.cells (Qa kd peer src ly nm sa sl sc ba bl bc) 32)).alloc (.cells Xr 100)).heap[w.heap.size]?=some (.cells (Qa kd peer src ly nm sa sl sc ba bl bc) 32 (0,0)):=by
  rw [(Z' _ _).block _ BJ];exact Z8 w _
 have hz:((w.alloc (.cells (Qa kd peer src ly nm sa sl sc ba bl bc) 32)).alloc (.cells Xr 100)).heap[w.heap.size+1]?=some (.cells Xr 100 (0,0)):=by
  exact Yx49
 have Kz:Below w w ((w.alloc (.cells (Qa kd peer src ly nm sa sl sc ba bl bc) 32)).alloc (.cells Xr 100)):=ZF (Z' w _) (Zw _) _;have eT:=Zh hD;have Bd:Hid (Ya ((w.alloc (.cells (Qa kd peer src ly nm sa sl sc ba bl bc) 32)).alloc (.cells Xr 100)) g b R ep):=hD.below Kz;have CS:=Zh (Lx _ l ((w.alloc (.cells (Qa kd peer src ly nm sa sl sc ba bl bc) 32)).alloc (.cells Xr 100)) (hv.below Kz) h3);have JX:=Zh Ac;have HZ:=Zh hz;have RM:=Zh Kz;clear hD hv Ac hz Kz h3;generalize YG R ep peer l=X at *
 generalize XN l=Y at *
 obtain ⟨ev,er⟩:=Y;dsimp only at HX Mr CS;go_enter Tryz.func76,Tryz.ntmps76;go_upto_region 2 with (go_at_call 105;refine CS.o.mono ?_;rintro e w2 ⟨⟨a,rfl,Ma⟩,Y7⟩;have DD:=Zh Ma;have X8:=Zh Y7;clear Ma Y7)
 clear CS;generalize ((w.alloc (.cells (Qa kd peer src ly nm sa sl sc ba bl bc) 32)).alloc (.cells Xr 100))=w1 at *
 have Zz:Hid (∀ w',Below w1 w1 w'→w'.cell? ⟨g,0,none⟩=some (.pointer (some ⟨b,0,none⟩))∧w'.cell? ⟨w,1,none⟩=some (.int .i64 peer)):=fun w' h=>
  ⟨(Bd.o.below h).cells.1,by rw [cell_of ((h.block w.heap.size (ZW JX.o)).trans JX.o) 1];rfl⟩
 have UD:Hid (∀ w' cs T,Below w w w'→Yd w' cs T→X=((T,R),ep)→(∃ cs':List Value,Ending.returned (.agg cs.toArray) = .returned (.agg cs'.toArray)∧Yd w' cs' X.1.1)∧Ya w' g b X.1.2 X.2∧Fr w (fun k=>k=b∨k=g) w w'):=fun w' cs T h1 h2 h3=>by
  rw [h3];exact ⟨⟨cs,rfl,h2⟩,eT.o.below h1,Fr.Z7 _ h1⟩
 by_cases RU:er=0
 ·subst RU;rw [Z4 Zi] at HX;obtain ⟨p,d,hpd⟩:=Mr.o rfl;subst hpd;dsimp only at HX;have HJ:=Zh (Ty b R peer w2.drew ((Bd.o.room.below X8.o).below (YJ _ _).drew));go_upto_region 4 with fail
  refine SX ?_;refine wp_region_held_drew (S:=(fun w'=>w'.cell? ⟨g,0,none⟩=some (.pointer (some ⟨b,0,none⟩))∧w'.cell? ⟨w,1,none⟩=some (.int .i64 peer))) ZB ?_ (fun Ye=>?_)
  ·(try dsimp only)
   exact Zz.o _ X8.o.drew
  refine YA 0 (h:=YA 1 (h:=YA 2 (h:=YA 3 (h:=YA 4 (h:=YA 5 (h:=?_))))));refine R7 6 (h:=fun K hK=>?_);go_simp;refine HJ.o.mono ?_;rintro e w' ⟨rfl,rfl⟩;go_wp2_with fail
  refine hK.out _ _ ?_ (fun XU=>?_)
  ·(try dsimp only)
   exact Zz.o _ X8.o.drew
  clear hK K;try simp only [Z_.pt]
  refine YA 7 (h:=?_);refine wpAnyH_done ZB ?_ _;refine RA ?_;clear Ye XU Zz;have Wc:Hid (Below w1 w1 w2.drew):=X8.o.drew;have lW:Hid (vv w2.drew a (.X5 p d)):=DD.o.below (YJ _ _).drew;clear X8 DD HJ;generalize w2.drew=w3 at *
  clear w2;by_cases hj:Y_ R peer=true
  ·rw [hj,Z4 Zi] at HX;rw [hj];have hta:=fun (w:World) (v:Value)=>MK (P:=Tryz.prog) w 97 188 v _ Tryz.underlying97 rfl
   obtain ⟨cv,ev,pv,ha,hP⟩:=lW.o;obtain ⟨⟨ca,cc,FM⟩,⟨ea,ec,cQ⟩,⟨pa,pc,Md⟩⟩:=hP.form;subst FM;subst cQ;subst Md;dsimp only [V_] at ha;subst ha;have aq:=Z8 w3 (.cells (Jp p ca cc ea ec pa pc d) 97);have Ux:Hid (Below w1 w1 (w3.alloc (.cells (Jp p ca cc ea ec pa pc d) 97))):=ZF Wc.o (Zw _) _;have CM:=Zh (sW g b R ep peer p d _ _ _ (w3.alloc (.cells (Jp p ca cc ea ec pa pc d) 97)) (Bd.o.below Ux.o) hI hl (hP.below (Z' _ _)));have LK:=cell_of ((Wc.o.block w.heap.size (ZW JX.o)).trans JX.o) 1;simp only [SE,SD,R8] at LK;have hxl:w.heap.size<w3.heap.size:=OS (ZW JX.o) Wc.o.size;clear lW hP;dsimp only [V_] at CM;go_wp2_with (first|(with_reducible refine Zj 97 (.tmp 7) rfl ?_;refine Zf rfl 97 (.tmp 7) rfl w3.heap.size rfl 97 (Jp p ca cc ea ec pa pc d) (0,0) _ aq Tryz.underlying97 rfl ZB ?_)|(go_at_call 106;refine CM.o.mono ?_;rintro e w5 ⟨⟨cs,rfl,Py⟩,MI⟩;have Rl:=Zh (Ux.o.trans (MI.mono Ux.o.size));have JG:=(Rl.o.block (w.heap.size+1) (ZW HZ.o)).trans HZ.o;have hi:=QA Py;have hold:=P_ Py;have O_:=Py.one;have JV:=Zh Py;clear Py MI)|(with_reducible refine ZU 100 (.tmp 4) (.tmp 46) rfl ?_;refine ZV rfl 100 (.tmp 4) (.tmp 46) rfl rfl (w.heap.size+1) cs.toArray rfl rfl 100 Xr JG hi hold O_ ?_))
   refine VD (v:= .agg cs.toArray) ?_ rfl ?_
   ·exact ni
   exact UD.o _ cs _ (Z3 (RM.o.trans (Rl.o.mono RM.o.size)) (Ix _) _) (JV.o.setRow JG _) HX.o
  ·exact Yx38
 ·exact Yx34
end Go.Proofs.By
namespace Go.Proofs.By
open Go.RowKit Go.Proofs.Heap
open Go.Proofs.Rm (YF YB Room ZT Inv Wm YO lQ FP)
open Go.Proofs.NM (Xz)
open Go.Proofs.Mem
def Ga (g b:Nat) (R:Room) (ep:Int) (o:Rm.Op) (l:List UInt8) (w:World) (e:Ending) (w':World):Prop:=
 ∃ sv,(∃ cs:List Value,e = .returned (.agg cs.toArray)∧Yd w' cs (take R ep o l sv).1.1)∧Ya w' g b (take R ep o l sv).1.2 (take R ep o l sv).2∧Fr w (fun k=>k=b∨k=g) w w'
theorem uw {R:Room} {o:Rm.Op} {sv:Value} (h:(Wm R o sv).2≠0):(Wm R o sv).1.2=R:=by
 unfold Wm at h ⊢;split
 ·rfl
 ·rename_i h1;rw [Z4 h1] at h;exact absurd rfl h
theorem Ya.ne {w:World} {g b:Nat} {R:Room} {ep:Int} (h:Ya w g b R ep):g≠b:=by
 intro e;obtain ⟨c,hc,_⟩:=h.room.cells;rw [←e,h.Y8] at hc;injection hc with hc
 injection hc with _ hc
 exact absurd hc Zd
theorem Ya.setRow {w:World} {g b:Nat} {R:Room} {ep:Int} (h:Ya w g b R ep) {X:Nat} {c:Array Value} {f:Nat × Nat} (hg:w.heap[X]?=some (.cells c 100 f)) (hXg:g≠X) (hXb:b≠X) (c':Array Value):Ya (w.setRow X c') g b R ep:=
 ⟨by rw [setRow_other w X g _ hXg];exact h.Y8,h.room.fr (Tq w X c') (Zw _) (fun e=>hXb e) (fun k _ _ hk=>by have hk:k=X:=hk;rw [hk,hg];intro h;injection h with h;injection h with _ h;exact absurd h Zd)⟩
theorem mM (g b:Nat) (R:Room) (ep kd p n q:Int) (nm:List UInt8) (ss:List Int) (sa ba:Option Addr) (sc bl bc:Nat) (l:List UInt8) (w:World) (hD:Ya w g b R ep) (hI:Inv R) (hT:Xz w) (h0:0≤ep) (h9:ep<1000000000)
  (hn:nm.length<9223372036854775807) (hs:XR w (.slice sa ss.length sc) ss.length (YO ss))
  (hdg:kd=1→∀ w1,Below w w w1→Calls Tryz.prog 76 (Qi (some ⟨g,0,none⟩) (Qa kd p n q (str nm) sa ss.length sc ba bl bc)) w1 fun e w'=>(∃ cs:List Value,e = .returned (.agg cs.toArray)∧Yd w' cs (YG R ep p l).1.1)∧Ya w' g b (YG R ep p l).1.2 (YG R ep p l).2∧Fr w1 (fun k=>k=b∨k=g) w1 w') :
  Calls Tryz.prog 44 (Qi (some ⟨g,0,none⟩) (Qa kd p n q (str nm) sa ss.length sc ba bl bc)) w (Ga g b R ep ⟨kd,p,n,q,nm,ss⟩ l w):=by
 have HX:Hid (∀ sv,take R ep ⟨kd,p,n,q,nm,ss⟩ l sv=if kd=1 then YG R ep p l else if (Wm R ⟨kd,p,n,q,nm,ss⟩ sv).2≠0 then ((Yb 6 (Wm R ⟨kd,p,n,q,nm,ss⟩ sv).2,R),ep) else ((Ub (ep+1) [] (Wm R ⟨kd,p,n,q,nm,ss⟩ sv).1.1 0,(Wm R ⟨kd,p,n,q,nm,ss⟩ sv).1.2),ep+1)):=fun sv=>rfl
 have Bh:=hD.cells.2.2.2;have W8:=hD.room.lt;have wC:=hD.ne
 have Ac:((w.alloc (.cells (Qa kd p n q (str nm) sa ss.length sc ba bl bc) 32)).alloc (.cells Xr 100)).heap[w.heap.size]?=some (.cells (Qa kd p n q (str nm) sa ss.length sc ba bl bc) 32 (0,0)):=by
  rw [(Z' _ _).block _ BJ];exact Z8 w _
 have hz:((w.alloc (.cells (Qa kd p n q (str nm) sa ss.length sc ba bl bc) 32)).alloc (.cells Xr 100)).heap[w.heap.size+1]?=some (.cells Xr 100 (0,0)):=by
  have h:=Z8 (w.alloc (.cells (Qa kd p n q (str nm) sa ss.length sc ba bl bc) 32)) (.cells Xr 100);exact Yx110
 have Kz:Below w w ((w.alloc (.cells (Qa kd p n q (str nm) sa ss.length sc ba bl bc) 32)).alloc (.cells Xr 100)):=ZF (Z' w _) (Zw _) _;have Bd:Hid (Ya ((w.alloc (.cells (Qa kd p n q (str nm) sa ss.length sc ba bl bc) 32)).alloc (.cells Xr 100)) g b R ep):=hD.below Kz;have JX:=Zh Ac;have HZ:=Zh hz;have RM:=Zh Kz
 have UD:Hid (∀ w2 cs (T:(Taken × Room) × Int) sv,Fr ((w.alloc (.cells (Qa kd p n q (str nm) sa ss.length sc ba bl bc) 32)).alloc (.cells Xr 100)).heap.size (fun k=>k=b∨k=g) ((w.alloc (.cells (Qa kd p n q (str nm) sa ss.length sc ba bl bc) 32)).alloc (.cells Xr 100)) w2→Yd w2 cs T.1.1→Ya w2 g b T.1.2 T.2→take R ep ⟨kd,p,n,q,nm,ss⟩ l sv=T→Ga g b R ep ⟨kd,p,n,q,nm,ss⟩ l w (.returned (.agg cs.toArray)) (w2.setRow (w.heap.size+1) cs.toArray)):=fun w2 cs T sv h1 h2 h3 h4=>by
  have Sh:=(h1.block (w.heap.size+1) (ZW hz) Zo).trans hz;refine ⟨sv,⟨cs,rfl,by rw [h4];exact h2.setRow Sh _⟩,by rw [h4];exact h3.setRow Sh Zo Zo _,?_⟩;exact L3 ((Fr.Z7 _ Kz).trans (h1.mono Kz.size (fun _ _ h=>h))) (Ix _) _
 by_cases hk:kd=1
 ·have CD:=Zh (hdg hk _ Kz);have DI:Hid (take R ep ⟨kd,p,n,q,nm,ss⟩ l (.slice none 0 0)=YG R ep p l):=by show _=_;rw [HX.o,ZR hk]
  subst hk;clear HX hdg hD hT hs Ac hz Kz;generalize YG R ep p l=X at *
  go_enter Tryz.func44,Tryz.ntmps44;go_wp2_with (first|(go_at_call 76;refine CD.o.mono ?_;rintro e w2 ⟨⟨cs,rfl,Py⟩,qI,wu⟩;have JG:=(wu.block (w.heap.size+1) (ZW HZ.o) Zo).trans HZ.o;have hi:=QA Py;have hold:=P_ Py;have O_:=Py.one;have JV:=Zh Py;have eU:=Zh qI;have yN:=Zh wu;clear Py qI wu)|(with_reducible refine ZU 100 (.tmp 4) (.tmp 12) rfl ?_;refine ZV rfl 100 (.tmp 4) (.tmp 12) rfl rfl (w.heap.size+1) cs.toArray rfl rfl 100 Xr JG hi hold O_ ?_))
  refine VD (v:= .agg cs.toArray) ?_ rfl ?_
  ·exact ni
  exact UD.o _ cs _ _ yN.o JV.o eU.o DI.o
 ·have DI:Hid (∀ sv,take R ep ⟨kd,p,n,q,nm,ss⟩ l sv=if (Wm R ⟨kd,p,n,q,nm,ss⟩ sv).2≠0 then ((Yb 6 (Wm R ⟨kd,p,n,q,nm,ss⟩ sv).2,R),ep) else ((Ub (ep+1) [] (Wm R ⟨kd,p,n,q,nm,ss⟩ sv).1.1 0,(Wm R ⟨kd,p,n,q,nm,ss⟩ sv).1.2),ep+1)):=fun sv=>by rw [HX.o,Z4 hk]
  have CD:=Zh (lQ b R ⟨kd,p,n,q,nm,ss⟩ sa ba sc bl bc ((w.alloc (.cells (Qa kd p n q (str nm) sa ss.length sc ba bl bc) 32)).alloc (.cells Xr 100)).drew (Bd.o.room.below (YJ _ _).drew) hI (Utf8Tabs_below hT Kz.drew) hn (hs.below Kz.drew));have lC:(kd == 1)=false:=by rw [WR];exact hk
  dsimp only at CD;clear HX hdg hD hT hs Ac hz Kz;generalize hdo:Wm R ⟨kd,p,n,q,nm,ss⟩=DO at *
  go_enter Tryz.func44,Tryz.ntmps44;go_upto_region 3 with fail
  generalize ((w.alloc (.cells (Qa kd p n q (str nm) sa ss.length sc ba bl bc) 32)).alloc (.cells Xr 100))=w1 at *
  have cg1:=Bd.o.cells.1;have SJ:=JX.o;refine SX ?_;refine wp_region_held_drew (S:=(fun w'=>w'.cell? ⟨g,0,none⟩=some (.pointer (some ⟨b,0,none⟩)))) ZB ?_ (fun Ye=>?_)
  ·(try dsimp only)
   exact cg1
  refine YA 0 (h:=YA 1 (h:=YA 2 (h:=YA 3 (h:=?_))));refine R7 4 (h:=fun K hK=>?_);refine Rx Zr 32 (.tmp 3) Zr w.heap.size Zr 32 (Qa kd p n q (str nm) sa ss.length sc ba bl bc) (0,0) _ SJ Tryz.underlying32 rfl ZB ?_;refine hK.out _ _ ?_ (fun XU=>?_)
  ·(try dsimp only)
   first|exact cg2|exact cg1
  clear hK K;try simp only [Z_.pt]
  refine R7 5 (h:=fun K hK=>?_);go_simp;refine CD.o.mono ?_;rintro e w2 ⟨v,sv,rfl,S3,Xp,Wu⟩;rw [hdo] at S3 Xp;try rw [hdo]
  obtain ⟨va,vc,hv,-⟩:=id S3;subst hv;have IQ:=Zh (DI.o sv);have HDOR:Hid ((DO sv).2≠0→(DO sv).1.2=R):=by rw [←hdo];exact uw
  have yN:Hid (Fr w1 (fun k=>k=b∨k=g) w1 w2):=(Fr.Z7 _ (YJ w1.heap.size w1).drew).trans (Wu.mono (Zw _) (fun _ _ h=>Ws h));have eU:Hid (Ya w2 g b (DO sv).1.2 ep):=⟨(Wu.block g (by have h:=Bd.o.cells.2.2.2;exact h) wC).trans Bd.o.Y8,Xp⟩;have FK:=Zh S3;have cg2:=eU.o.cells.1;clear S3 Xp Wu CD;generalize (DO sv).1.1.length=vn at *
  go_wp2_with fail
  refine hK.out _ _ ?_ (fun VG=>?_)
  ·(try dsimp only)
   first|exact cg2|exact cg1
  clear hK K;try simp only [Z_.pt]
  refine YA 6 (h:=YA 7 (h:=YA 8 (h:=YA 9 (h:=YA 10 (h:=?_)))));refine wpAnyH_done ZB ?_ _;refine RA ?_;clear Ye XU VG;by_cases he:(DO sv).2=0
  ·rw [he];rw [Z4 (by simp [he])] at IQ;have Tn:((Qm 0 0 0 0 false 0 0 0 0 none 0 0 false 0 none 0 0 none 0 0 0 0 false false 0 none 0 0 va vn vc 0):List Value).length=22:=rfl;have CC:=Zh (I2 g (.pointer (some ⟨b,0,none⟩)) ep (Qm 0 0 0 0 false 0 0 0 0 none 0 0 false 0 none 0 0 none 0 0 0 0 false false 0 none 0 0 va vn vc 0) w2 eU.o.Y8 h0 h9 rfl ZB);clear Tn;have bu:Hid (Yd w2 ((((Qm 0 0 0 0 false 0 0 0 0 none 0 0 false 0 none 0 0 none 0 0 0 0 false false 0 none 0 0 va vn vc 0):List Value).set 0 (.int .i64 2)).set 2 (.int .i64 (ep+1))) (Ub (ep+1) [] (DO sv).1.1 0)):=⟨_,_,_,_,_,rfl,Vy.nil _,YI.nil _,FK.o⟩;have eN:=Zh eU.o.apart;generalize R4:((((Qm 0 0 0 0 false 0 0 0 0 none 0 0 false 0 none 0 0 none 0 0 0 0 false false 0 none 0 0 va vn vc 0):List Value).set 0 (.int .i64 2)).set 2 (.int .i64 (ep+1)))=cs at *
   have HCC:=Zh R4;clear R4;go_wp2_with (first|(go_at_call 79;refine CC.o.mono ?_;rintro e w5 ⟨rfl,cU,sy⟩;have Hv:Hid (Fr w1 (fun k=>k=b∨k=g) w1 w5):=yN.o.trans (sy.mono yN.o.size (fun _ _ h=>Wh h));have JG:=(Hv.o.block (w.heap.size+1) (ZW HZ.o) Zo).trans HZ.o;have JV:Hid (Yd w5 cs (Ub (ep+1) [] (DO sv).1.1 0)):=bu.o.fr sy (fun k hk=>eN.o k (Wh hk));have HD5:Hid (Ya w5 g b (DO sv).1.2 (ep+1)):=⟨cU,eU.o.room.fr sy (Zw _) (fun h=>wC (Eq.symm h)) (fun k c fr hk=>eN.o.ne Zi k c fr (Wh hk))⟩;have hi:=QA JV.o;have hold:=P_ JV.o;have O_:=JV.o.one;clear cU sy CC)|(with_reducible refine ZU 100 (.tmp 4) (.tmp 29) rfl ?_;refine ZV rfl 100 (.tmp 4) (.tmp 29) rfl rfl (w.heap.size+1) cs.toArray rfl rfl 100 Xr JG hi hold O_ ?_))
   refine VD (v:= .agg cs.toArray) ?_ rfl ?_
   ·exact ni
   exact UD.o _ cs _ _ Hv.o JV.o HD5.o IQ.o
  ·rw [ZR he] at IQ;have hb:((DO sv).2 != 0)=true:=by rw [RQ];exact he
   have Y7:((DO sv).2 == 0)=false:=by rw [WR];exact he
   have HDR:Hid (Ya w2 g b R ep):=by have h:=eU.o;rw [HDOR.o he] at h;exact h
   clear eU;go_wp2_with (first|(go_at_call 78;refine (P9 6 (DO sv).2 _).mono ?_;rintro e w5 ⟨⟨cs,rfl,Py⟩,MI⟩;have Hv:Hid (Fr w1 (fun k=>k=b∨k=g) w1 w5):=yN.o.trans (Fr.Z7 _ (MI.mono yN.o.size));have JG:=(Hv.o.block (w.heap.size+1) (ZW HZ.o) Zo).trans HZ.o;have HD5:=Zh (HDR.o.below MI);have hi:=QA Py;have hold:=P_ Py;have O_:=Py.one;have JV:=Zh Py;clear Py MI)|(with_reducible refine ZU 100 (.tmp 4) (.tmp 25) rfl ?_;refine ZV rfl 100 (.tmp 4) (.tmp 25) rfl rfl (w.heap.size+1) cs.toArray rfl rfl 100 Xr JG hi hold O_ ?_))
   refine VD (v:= .agg cs.toArray) ?_ rfl ?_
   ·exact ni
   exact UD.o _ cs _ _ Hv.o JV.o HD5.o IQ.o
structure OJ where
 bad:Int
 XB:Int
 unknown:Int
 refused:Int
def pF:OJ:=⟨0,0,0,0⟩
def OJ.add (c:OJ) (k u:Int):OJ:=
 ⟨if k=3 then c.bad+1 else c.bad,if k=4 then c.XB+1 else c.XB,(if k=5 then c.unknown+1 else c.unknown)+u,if k=6 then c.refused+1 else c.refused⟩
structure OJ.Below (c:OJ) (n:Int):Prop where
 bad:0≤c.bad∧c.bad≤n
 XB:0≤c.XB∧c.XB≤n
 unknown:0≤c.unknown∧c.unknown≤n
 refused:0≤c.refused∧c.refused≤n
end Go.Proofs.By
namespace Go.Proofs.By
open Go.RowKit Go.Proofs.Heap
open Go.Proofs.Rm (YF YB Room ZT Inv ui IW)
theorem yG (w:World):Calls Tryz.prog 40 #[] w fun e w'=>(∃ d b,e = .returned (.pointer (some ⟨d,0,none⟩))∧Ya w' d b Rm.empty 0∧w.heap.size≤d∧w.heap.size≤b)∧Below w w w':=by
 have C:=Zh (ui w);go_enter Tryz.func40,Tryz.ntmps40;go_wp2_with (go_at_call 69;refine C.o.mono ?_;rintro e w2 ⟨rfl,Xp,Y7⟩;have HR:=Zh Xp;have HB:=Zh Y7;clear Xp Y7)
 go_ret;exact ⟨⟨_,w.heap.size,rfl,⟨Z8 w2 _,HR.o.below (Z' w2 _)⟩,HB.o.size,Zw _⟩,ZF HB.o (Zw _) _⟩
end Go.Proofs.By
