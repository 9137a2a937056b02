/- Part of a proof. -/
import Derived.Test.YtpdjhlcbcomdkaaGreatDoorF07
import Derived.Test.YtpdjhlcbcomdkaaGreatDoorF11
set_option linter.unusedVariables false
set_option linter.unusedSimpArgs false
set_option maxRecDepth 100000
set_option maxHeartbeats 16000000
open Go Go.Q Go.Qr
namespace Go.Proofs.By
open Go.RowKit Go.Proofs.Heap
open Go.Proofs.Rm (YM YE Room Z4 Inv of Ra of_lt KE O0)
theorem Sk {P:Program} {ops:Array Oper} {o:Oper} {a:Act} {w:World} {K:Act→World→Prop} {Q:Exit→Act→World→Prop} {E':Prop} (Ld:o.guard=none) (ty:TypeId) (x:Operand) (ho:o.op = .load ty x)
  (g:Nat) (hx:a.eval x = .pointer (some ⟨g,0,none⟩)) (t:TypeId) (cs:Array Value) (fr:Nat × Nat) (d:TypeDesc) (hg:w.heap[g]?=some (.cells cs t fr))
  (hu:P.underlying ty=some d) (hd:(match d with | .struct _ | .array _ _=>true|_=>false)=true) (hi:(P.info? ty).map (·.size)=some cs.size)
  (h:K (a.put o.dst (.agg cs)) w):if Region.wanted o (yielded ops a.tmps)=true then Oper.wp P o a w K Q else E':=by
 have hw:Region.wanted o (yielded ops a.tmps)=true:=by simp [Region.wanted,Ld]
 rw [ZX hw]
 exact wp_load_row ty x ho g hx t cs fr d hg hu hd hi h
theorem x_ {w:World} {cs:List Value} {T:Taken} (h:YC w cs T):cs.toArray.size=22:=by rw [List.size_toArray];exact h.size
theorem Tb {w:World} {cs:List Value} {T:Taken} (h:YC w cs T):(XQ:Array Value).size=cs.toArray.size:=by rw [x_ h];rfl
theorem Tc {w:World} {cs:List Value} {T:Taken} (h:YC w cs T):(Tryz.prog.info? 100).map (·.size)=some cs.toArray.size:=by rw [x_ h];kernel_rfl
theorem YC.setRow {w:World} {cs:List Value} {T:Taken} (h:YC w cs T) {g:Nat} {c:Array Value} {f:Nat × Nat} (hg:w.heap[g]?=some (.cells c 100 f)) (c':Array Value):YC (w.setRow g c') cs T:=
 h.fr (We w g c') (fun k hk=>by have hk:k=g:=hk;subst hk;exact ⟨_,_,_,hg,by decide,by decide,by decide,by decide,by decide,by decide,by decide⟩)
theorem vT (g b:Nat) (R:Room) (ep peer:Int) (P:J2) (d:AJ) (cv ev pv:Value) (w:World) (hD:Yl w g b R ep) (hI:Inv R) (hl:∀ n,(R.src n).ss.length≤1000000) (hP:Vk w P cv ev pv) :
  Calls Tryz.prog 106 (Jg (some ⟨g,0,none⟩) peer (Uz P d cv ev pv).toArray) w fun e w'=>(∃ cs:List Value,e = .returned (.agg cs.toArray)∧YC w' cs (VS R ep peer P d))∧Below w w w':=by
 obtain ⟨⟨ca,cc,rfl⟩,⟨ea,ec,rfl⟩,⟨pa,pc,rfl⟩⟩:=hP.form
 obtain ⟨n,O2,O3,hO⟩:∃ (n:Nat) (O2:Int) (O3:Bool),of R P.X5=((n:Int),O2,O3):=⟨(of R P.X5).1.toNat,(of R P.X5).2.1,(of R P.X5).2.2,by rw [Int.toNat_of_nonneg (of_lt R P.X5).1]⟩
 have HX:Hid (VS R ep peer P d=if (O3 && decide ((R.src n).own=peer)) && decide (O2=d.Zu) then {Vf with WH:=⟨1,(n:Int),ep,0⟩,j6:=P,eT:=d} else Yt 5 0):=by
  show VS R ep peer P d=_
  unfold VS owned
  rw [hO]
  rfl
 have eI:Hid (O3=true→(R.src n).there=true):=by
  show _→_
  intro h3
  obtain ⟨m,_,h1,_,h2⟩:=Ra (R:=R) (x:=P.X5) (by rw [hO];exact h3)
  rw [hO] at h2
  have h4:(n:Int)=(m:Int):=congrArg (·.1) h2
  have h4:n=m:=by omega
  rw [h4];exact h1
 generalize VS R ep peer P d=X at *
 have Fq:=hD.cells.2.2.2
 have FB:((w.alloc (.cells (Jn P ca cc ea ec pa pc d) 97)).alloc (.cells XQ 100)).heap[w.heap.size]?=some (.cells (Jn P ca cc ea ec pa pc d) 97 (0,0)):=by
  rw [(Z' _ _).block _ DI]
  exact Z5 w _
 have hz:((w.alloc (.cells (Jn P ca cc ea ec pa pc d) 97)).alloc (.cells XQ 100)).heap[w.heap.size+1]?=some (.cells XQ 100 (0,0)):=by
  have h:=Z5 (w.alloc (.cells (Jn P ca cc ea ec pa pc d) 97)) (.cells XQ 100)
  have e:(w.alloc (.cells (Jn P ca cc ea ec pa pc d) 97)).heap.size=w.heap.size+1:=by show (w.heap.push _).size=_;rw [Rg]
  rw [e] at h
  exact h
 have TK:Below w w ((w.alloc (.cells (Jn P ca cc ea ec pa pc d) 97)).alloc (.cells XQ 100)):=ZA (Z' w _) (ZB _) _
 have EU:Hid (Yl ((w.alloc (.cells (Jn P ca cc ea ec pa pc d) 97)).alloc (.cells XQ 100)) g b R ep):=hD.below TK
 have HP1:Hid (Vk ((w.alloc (.cells (Jn P ca cc ea ec pa pc d) 97)).alloc (.cells XQ 100)) P (.slice ca P.Sa.length cc) (.slice ea P.ext.length ec) (.slice pa P.Zp.length pc)):=hP.below TK
 have OC:=Zh FB
 have HZ:=Zh hz
 have T9:=Zh TK
 clear hD hP FB hz TK
 dsimp only [Uz]
 go_enter Tryz.func106,Tryz.ntmps106
 go_upto_region 1 with fail
 generalize ((w.alloc (.cells (Jn P ca cc ea ec pa pc d) 97)).alloc (.cells XQ 100))=w1 at *
 have dY:Hid (Calls Tryz.prog 127 (Jc (some ⟨b,0,none⟩) P.X5) w1.drew fun e w'=>e = .returned (.tuple (Q1 (n:Int) O2 O3))∧Below w1 w1 w'):=by
  have h:=KE b R P.X5 w1.drew (EU.o.room.below (YG _ _).drew)
  rw [hO] at h
  exact h.mono (fun _ _ ⟨q1,q2⟩=>⟨q1,(YG _ _).drew.trans q2⟩)
 have ZC:Hid (∀ w',Below w1 w1 w'→w'.cell? ⟨g,0,none⟩=some (.pointer (some ⟨b,0,none⟩))∧w'.cell? ⟨w,4,none⟩=some (.int .u32 P.X5)∧Below w1 w1 w'):=fun w' h=>
  ⟨(EU.o.below h).cells.1,by rw [cell_of ((h.block w.heap.size (ZQ OC.o)).trans OC.o) 4];rfl,h⟩
 clear hO
 refine QN ?_
 refine wp_region_held_drew (S:=(fun w'=>w'.cell? ⟨g,0,none⟩=some (.pointer (some ⟨b,0,none⟩))∧w'.cell? ⟨w,4,none⟩=some (.int .u32 P.X5)∧Below w1 w1 w')) Zg ?_ (fun Yb=>?_)
 ·(try dsimp only)
  exact ZC.o _ (YG _ _).drew
 refine YA 0 (h:=YA 1 (h:=YA 2 (h:=YA 3 (h:=YA 4 (h:=YA 5 (h:=YA 6 (h:=?_)))))))
 refine TR 7 (h:=fun K hK=>?_)
 go_simp
 refine dY.o.mono ?_
 rintro e w2 ⟨rfl,Y0⟩
 have XA:=Zh Y0
 clear Y0
 go_wp2_with fail
 refine hK.out _ _ ?_ (fun XX=>?_)
 ·(try dsimp only)
  exact ZC.o _ XA.o
 clear hK K
 try simp only [Z3.pt]
 refine YA 8 (h:=YA 9 (h:=YA 10 (h:=YA 11 (h:=YA 12 (h:=YA 13 (h:=YA 14 (h:=?_)))))))
 refine wpAnyH_done Zg ?_ _
 refine Py ?_
 have dZ:Hid (Calls Tryz.prog 81 (Ql (some ⟨b,0,none⟩) (n:Int)) w2 fun e w'=>(∃ (nm ow:Int) (a:Option Addr) (k c:Nat) (mu has:Bool),e = .returned (.tuple (Qx (Qj nm ow a k c mu) has))∧has=(R.src n).there∧(has=true→ow=(R.src n).own))∧Below w2 w2 w'):=O0 b R n w2 (EU.o.room.below XA.o) hI hl
 have cg2:=(ZC.o w2 XA.o).1
 clear Yb XX dY ZC
 go_upto_region 3 with (go_at_call 81;refine dZ.o.mono ?_;rintro e w3 ⟨⟨nm,ow,a,k,c,mu,has,rfl,GG,Fv⟩,Ut⟩;have T_:=Zh (XA.o.trans (Ut.mono XA.o.size));have HH:=Zh GG;have M8:=Zh Fv;clear Ut GG Fv)
 have Ur:Hid (Below w1 w1 (w3.alloc (.cells (Qj nm ow a k c mu) 108))):=ZA T_.o (ZB _) _
 have cl:=cell_of ((T_.o.block w.heap.size (ZQ OC.o)).trans OC.o) 11
 simp only [R9,R8,RT] at cl
 have dK:w.heap.size<w3.heap.size:=Px (ZQ OC.o) T_.o.size
 clear dZ XA cg2
 cases O3 with
 | false=>
  rw [Z6 Zi] at HX
  exact gU
 | true=>
  have Fv:ow=(R.src n).own:=M8.o (by rw [HH.o];exact eI.o rfl)
  subst Fv
  clear M8 HH eI
  by_cases hp:(R.src n).own=peer
  ·by_cases lX:O2=d.Zu
   ·subst hp
    subst lX
    rw [ZX Zi] at HX
    go_upto_region 5 with fail
    clear cl dK
    generalize w3.alloc (.cells (Qj nm (R.src n).own a k c mu) 108)=w4 at *
    have cg4:=(EU.o.below Ur.o).cells.2.1
    have MA:=(Ur.o.block w.heap.size (ZQ OC.o)).trans OC.o
    have BD:=(Ur.o.block (w.heap.size+1) (ZQ HZ.o)).trans HZ.o
    have eD:=Zh (HP1.o.below Ur.o)
    have oz:Below w w w4:=T9.o.trans (Ur.o.mono T9.o.size)
    clear EU HP1 OC HZ Ur T_ T9 hI hl
    refine QN ?_
    refine wp_region_held_drew (S:=(fun w'=>w'.cell? ⟨g,1,none⟩=some (.int .i64 ep))) Zg ?_ (fun Yb=>?_)
    ·(try dsimp only)
     exact cg4
    refine YA 0 (h:=YA 1 (h:=YA 2 (h:=YA 3 (h:=YA 4 (h:=YA 5 (h:=?_))))))
    refine TR 6 (h:=fun K hK=>?_)
    refine Sk Zr 97 (.tmp 5) Zr w.heap.size Zr 97 (Jn P ca cc ea ec pa pc d) (0,0) _ MA Tryz.underlying97 rfl Zg ?_
    refine hK.out _ _ ?_ (fun XX=>?_)
    ·(try dsimp only)
     first|exact cg4|exact cg5
    clear hK K
    try simp only [Z3.pt]
    refine YA 7 (h:=?_)
    refine TR 8 (h:=fun K hK=>?_)
    refine RO Zr 100 (.tmp 6) (.tmp 56) Zr Zr (w.heap.size+1) (Jp 1 (n:Int) ep 0 P ca cc ea ec pa pc d none 0 0 none 0 0 0) Zr Zr 100 _ BD Zg Zg Zg ?_
    have cg5:(w4.setRow (w.heap.size+1) (Jp 1 (n:Int) ep 0 P ca cc ea ec pa pc d none 0 0 none 0 0 0)).cell? ⟨g,1,none⟩=some (.int .i64 ep):=by rw [World.cell?_of_block (w:=w4) (setRow_other w4 _ g _ Zo)];exact cg4
    refine hK.out _ _ ?_ (fun Wo=>?_)
    ·(try dsimp only)
     first|exact cg4|exact cg5
    clear hK K
    try simp only [Z3.pt]
    refine wpAnyH_done Zg ?_ _
    refine Py ?_
    go_wp2_with fail
    refine VR (v:= .agg (Jp 1 (n:Int) ep 0 P ca cc ea ec pa pc d none 0 0 none 0 0 0)) ?_ rfl ?_
    ·exact results_cell_row Zr _ _ (w.heap.size+1) 100 (Jp 1 (n:Int) ep 0 P ca cc ea ec pa pc d none 0 0 none 0 0 0) (0,0) _ Zr (setRow_heap w4.drew _ _ _ _ _ BD) Tryz.underlying100 rfl Zg
    refine ⟨⟨(Jp 1 (n:Int) ep 0 P ca cc ea ec pa pc d none 0 0 none 0 0 0),rfl,?_⟩,Z0 oz.drew (JK _) _⟩
    rw [HX.o]
    have HT:YC w4.drew (Jp 1 (n:Int) ep 0 P ca cc ea ec pa pc d none 0 0 none 0 0 0) {Vf with WH:=⟨1,(n:Int),ep,0⟩,j6:=P,eT:=d}:=⟨_,_,_,_,_,rfl,eD.o.below (YG _ _).drew,YV.nil _,Row.nil _ _⟩
    exact HT.setRow BD _
   ·rw [Z6 (by simp [lX])] at HX
    have hb:(O2 != d.Zu)=true:=by rw [TF];exact lX
    have Y0:(O2 == d.Zu)=false:=by rw [WT];exact lX
    subst hp
    exact gU
  ·rw [Z6 (by simp [hp])] at HX
   have hb:((R.src n).own != peer)=true:=by rw [TF];exact hp
   have Y0:((R.src n).own == peer)=false:=by rw [WT];exact hp
   exact gU
theorem yH:∀ x:Fin 256,bits .and .u8 ((x.val:Nat):Int) 60=((x.val / 4 % 16*4:Nat):Int):=by decide +kernel
theorem iu (n:Nat) (hn:n<256):bits .and .u8 (n:Int) 60=((n / 4 % 16*4:Nat):Int):=yH ⟨n,hn⟩
def rA (d:AJ):Value:= .agg (Jk d)
theorem AG (v:Value) (b:List UInt8) (w:World) (hv:Yn w v b) :
  Calls Tryz.prog 126 #[v] w fun e w'=>e = .returned (.tuple (Qn (Qd (YN b).1.Zu (YN b).1.key (YN b).1.start (YN b).1.frame) (YN b).2))∧Below w w w':=by
 have hlen:=hv.len
 have HV:Hid (∀ w',Below w w w'→Yn w' v b):=fun w' h=>hv.below h
 have HE:Hid (YN b=if b.length<4 then (Ue,2) else if at8 b 0 / 4 % 16≠0∨at8 b 0 % 4=3∨at8 b 1≠90 then (Ue,1) else (⟨(at8 b 0 % 4:Nat),decide (128≤at8 b 0),decide (at8 b 0 / 64 % 2=1),get b 2 2⟩,0)):=rfl
 obtain ⟨a,c,rfl,TH,-⟩:=id hv
 clear hv
 have Vb:=Z' w (.cells (Qd 0 false false 0) 81)
 have pI:=Zh (HV.o _ Vb)
 generalize YN b=X at *
 by_cases h1:b.length<4
 ·obtain rfl:X=(Ue,2):=by rw [HE.o,ZX h1]
  clear HE HV pI
  go_enter Tryz.func126,Tryz.ntmps126
  go_wp2
  exact VR (v:= .tuple (Qn (Qd 0 false false 0) 2)) (by simp [results,Tryz.results126,go_sem]) rfl ⟨rfl,Vb⟩
 obtain ⟨g,off,cap,e1,_,_,hc⟩:=SC (HV.o w (YG _ _)) Zo
 cases e1
 obtain ⟨_,_,_,e2,_,_,iX⟩:=SC pI.o Zo
 cases e2
 have d0:(w.alloc (.cells (Qd 0 false false 0) 81)).cell? ⟨g,off,none⟩=some (.int .u8 (at8 b 0:Int)):=iX 0 Zo
 have d1:=iX 1 Zo
 have l1:decide ((b.length:Int)<4)=false:=WN Zo
 have Ro:=XM b 0
 have Tm:=XM b 1
 have a60:=iu (at8 b 0) Ro
 have a3:=and_3 (at8 b 0) Ro
 clear hc iX
 by_cases h2:at8 b 0 / 4 % 16≠0∨at8 b 0 % 4=3∨at8 b 1≠90
 ·obtain rfl:X=(Ue,1):=by rw [HE.o,Z6 h1,ZX h2]
  clear HE HV pI
  by_cases h3:at8 b 0 / 4 % 16≠0
  ·have q3:(((at8 b 0 / 4 % 16*4:Nat):Int) != 0)=true:=by rw [TF];omega
   clear h2 h3
   generalize at8 b 0 / 4 % 16*4=y at *
   exact hU
  ·have hz:at8 b 0 / 4 % 16*4=0:=by omega
   rw [hz] at a60
   by_cases h4:at8 b 0 % 4=3
   ·rw [h4] at a3
    clear h2 h3 h4 hz
    exact hU
   ·have q4:(((at8 b 0 % 4:Nat):Int) == 3)=false:=by rw [WT];omega
    have q5:(((at8 b 1:Nat):Int) != 90)=true:=by rw [TF];omega
    clear h2 h3 h4 hz
    generalize at8 b 0 % 4=y at *
    exact hU
 ·have CG:=OZ _ b 2 2 _ pI.o
  have hn:get b 2 2<65536:=VI b 2 2 2 Zd
  have hz:at8 b 0 / 4 % 16*4=0:=by omega
  rw [hz] at a60
  have q4:(((at8 b 0 % 4:Nat):Int) == 3)=false:=by rw [WT];omega
  have q5:(((at8 b 1:Nat):Int) != 90)=false:=by rw [bne_eq_false_iff_eq];omega
  have a128:=xh (at8 b 0) Ro
  have a64:=iw (at8 b 0) Ro
  obtain rfl:X=(⟨(at8 b 0 % 4:Nat),(((at8 b 0 / 128 % 2*128:Nat):Int) != 0),(((at8 b 0 / 64 % 2*64:Nat):Int) != 0),get b 2 2⟩,0):=by
   rw [HE.o,Z6 h1,Z6 h2]
   congr 2
   ·rw [Bool.eq_iff_iff,NB,TF];omega
   ·rw [Bool.eq_iff_iff,NB,TF];omega
  dsimp only
  have ub:=Zh CG
  have ZC:Hid (∀ w',Below w w w'→w'.cell? ⟨g,off,none⟩=some (.int .u8 (at8 b 0:Int))∧Below w w w'):=fun w' h=>by
   obtain ⟨_,_,_,e,_,_,hc⟩:=SC (HV.o w' h) Zo
   cases e
   exact ⟨hc 0 Zo,h⟩
  clear HE HV pI h2 hz CG
  have hy4:at8 b 0 % 4<4:=by omega
  have eZ:(0:Int)<(b.length:Int):=by omega
  have bY:0<b.length:=by omega
  have hbZ:¬b.length=0:=by omega
  generalize get b 2 2=n at *
  generalize at8 b 0 / 128 % 2*128=y1 at *
  generalize at8 b 0 / 64 % 2*64=y2 at *
  generalize at8 b 0 % 4=y at *
  generalize b.length=N at *
  have fq:IntKind.u16.wrap (n:Int)=(n:Int):=by rw [IntKind.wrap_u16];omega
  have hyw:IntKind.i64.wrap (y:Int)=(y:Int):=Ua _ Zo
  go_enter Tryz.func126,Tryz.ntmps126
  go_wp2_with (go_at_call 155;refine ub.o.mono ?_;rintro e w' ⟨rfl,rfl⟩)
  go_region_held3 (fun w'=>w'.cell? ⟨g,off,none⟩=some (.int .u8 (at8 b 0:Int))∧Below w w w') (first|exact ZC.o _ (by first|exact (Z' w _).drew|with_reducible assumption|exact Below.drew Xo|exact Below.setCell Xo Zi _|exact Below.setCell (Below.drew Xo) Zi _)|go_keep) (first|fail)
  go_wp2
  exact VR (v:= .tuple (Qn (Qd y ((y1:Int) != 0) ((y2:Int) != 0) n) 0)) (by simp [results,Tryz.results126,go_sem,fq]) rfl ⟨rfl,(Z' w _).drew⟩
end Go.Proofs.By
namespace Go.Proofs.By
open Go.RowKit Go.Proofs.Heap
theorem zN (v:Value) (b:List UInt8) (w:World) (hv:Yn w v b) :
  Calls Tryz.prog 125 #[v] w fun e w'=>(∃ a,e = .returned (.tuple #[a,.int .i64 (YY b).2])∧OW w' a (YY b).1)∧Below w w w':=by
 by_cases h:(looks b).2=0
 ·exact wG v b w hv h
 ·exact zO v b w hv h
def Co (b:List UInt8):Ev × Int:=if (YY b).2≠0 then (.none,(YY b).2) else if (YN (YY b).1.Zp).2≠0 then (.none,(YN (YY b).1.Zp).2) else (.Ye (YY b).1 (YN (YY b).1.Zp).1,0)
theorem IM {b:List UInt8} (h1:¬512<b.length) (h2:¬b.length<2) (h3:¬(192≤at8 b 1∧at8 b 1≤223)):X0 b=Co b:=by
 unfold X0 Co
 rw [Z6 h1,Z6 h2,Z6 h3]
theorem Mk (v:Value) (b:List UInt8) (w:World) (hv:Yn w v b) (h3:¬(192≤at8 b 1∧at8 b 1≤223)) :
  Calls Tryz.prog 105 #[v] w fun e w'=>(∃ a,e = .returned (.tuple #[a,.int .i64 (X0 b).2])∧yh w' a (X0 b).1)∧Below w w w':=by
 have hlen:=hv.len
 by_cases h1:512<b.length
 ·have HX:Hid (X0 b=(.none,5)):=by show _=_;unfold X0;rw [ZX h1]
  exact h_
 by_cases h2:b.length<2
 ·have HX:Hid (X0 b=(.none,2)):=by show _=_;unfold X0;rw [Z6 h1,ZX h2]
  exact h_
 rw [IM h1 h2 h3]
 have HC:=Zh (zN v b w hv)
 have HX:Hid (Co b=if (YY b).2≠0 then (.none,(YY b).2) else if (YN (YY b).1.Zp).2≠0 then (.none,(YN (YY b).1.Zp).2) else (.Ye (YY b).1 (YN (YY b).1.Zp).1,0)):=rfl
 obtain ⟨g,off,c,rfl,TH,vF,XS⟩:=SC hv Zo
 have d1:=XS 1 Zo
 clear XS hv TH vF
 have eZ:(1:Int)<(b.length:Int):=by omega
 have bY:1<b.length:=by omega
 generalize Co b=X at *
 generalize YY b=Y at *
 obtain ⟨P,er⟩:=Y
 dsimp only at HC HX
 have lZ:=fun (x:Value) (w:World)=>run_makeInterface (P:=Tryz.prog) w 97 x Zg
 have hk:at8 b 1<192∨223<at8 b 1:=by omega
 generalize at8 b 1=kd at *
 go_enter Tryz.func105,Tryz.ntmps105
 rcases hk with hk|hk
 ·have l1:decide ((192:Int)≤(kd:Int))=false:=WN Zo
  exact aC
 ·have l1:decide ((192:Int)≤(kd:Int))=true:=Ws Zo
  have l2:decide ((kd:Int)≤223)=false:=WN Zo
  exact aC
open Go.Proofs.Rm (YM YE Room Z4 Inv Zz U6)
theorem Nv {P:Program} (w:World) (t xt:TypeId) (v:Value) (d:TypeDesc) (hu:P.underlying t=some d) (hd:(match d with | .interface _=>false|_=>true)=true):(Instr.typeAssert (.iface t v) xt t true).run P w = .ok (.tuple #[v,.bool true]) w:=by
 unfold Instr.typeAssert
 simp only [Sem.run_bind,run_underlying hu w,Result.andThen_ok]
 cases d <;> simp_all
theorem M5 {b:List UInt8} (h3:¬(192≤at8 b 1∧at8 b 1≤223)) (h:(X0 b).2=0):∃ p d,(X0 b).1 = .Ye p d:=by
 by_cases h1:512<b.length
 ·unfold X0 at h;rw [ZX h1] at h;cases h
 by_cases h2:b.length<2
 ·unfold X0 at h;rw [Z6 h1,ZX h2] at h;cases h
 rw [IM h1 h2 h3] at h ⊢
 unfold Co at h ⊢
 by_cases h4:(YY b).2≠0
 ·rw [ZX h4] at h;exact absurd h h4
 rw [Z6 h4] at h ⊢
 by_cases h5:(YN (YY b).1.Zp).2≠0
 ·rw [ZX h5] at h;exact absurd h h5
 rw [Z6 h5]
 exact ⟨_,_,rfl⟩
theorem Ob (g b:Nat) (R:Room) (ep kd peer src ly:Int) (nm:ByteArray) (sa ba:Option Addr) (sl sc bl bc:Nat) (l:List UInt8) (w:World) (hD:Yl w g b R ep) (hI:Inv R) (hl:∀ n,(R.src n).ss.length≤1000000) (hv:Yn w (.slice ba bl bc) l) (h3:¬(192≤at8 l 1∧at8 l 1≤223)) :
  Calls Tryz.prog 76 (Qf (some ⟨g,0,none⟩) (Qa kd peer src ly nm sa sl sc ba bl bc)) w fun e w'=>(∃ cs:List Value,e = .returned (.agg cs.toArray)∧YC w' cs (YZ R ep peer l).1.1)∧Yl w' g b (YZ R ep peer l).1.2 (YZ R ep peer l).2∧Fr w (fun k=>k=b∨k=g) w w':=by
 have HX:Hid (YZ R ep peer l=if (X0 l).2≠0 then ((Yt 3 (X0 l).2,R),ep) else if !Zz R peer then ((Yt 4 0,R),ep) else match (X0 l).1 with
  | .Ye p d=>((VS R ep peer p d,R),ep)
  | .X6 l=>((U7 (ep+1) l (ZG peer l R).1.1 (ZG peer l R).2,(ZG peer l R).1.2),ep+1)
  | .none=>((U7 (ep+1) [] [] 0,R),ep+1)):=rfl
 have M9:=Zh (M5 (b:=l) h3)
 have Fq:=hD.cells.2.2.2
 have FB:((w.alloc (.cells (Qa kd peer src ly nm sa sl sc ba bl bc) 32)).alloc (.cells XQ 100)).heap[w.heap.size]?=some (.cells (Qa kd peer src ly nm sa sl sc ba bl bc) 32 (0,0)):=by
  rw [(Z' _ _).block _ DI]
  exact Z5 w _
 have hz:((w.alloc (.cells (Qa kd peer src ly nm sa sl sc ba bl bc) 32)).alloc (.cells XQ 100)).heap[w.heap.size+1]?=some (.cells XQ 100 (0,0)):=by
  exact aY
 have TK:Below w w ((w.alloc (.cells (Qa kd peer src ly nm sa sl sc ba bl bc) 32)).alloc (.cells XQ 100)):=ZA (Z' w _) (ZB _) _
 have kq:=Zh hD
 have EU:Hid (Yl ((w.alloc (.cells (Qa kd peer src ly nm sa sl sc ba bl bc) 32)).alloc (.cells XQ 100)) g b R ep):=hD.below TK
 have CS:=Zh (Mk _ l ((w.alloc (.cells (Qa kd peer src ly nm sa sl sc ba bl bc) 32)).alloc (.cells XQ 100)) (hv.below TK) h3)
 have OC:=Zh FB
 have HZ:=Zh hz
 have T9:=Zh TK
 clear hD hv FB hz TK h3
 generalize YZ R ep peer l=X at *
 generalize X0 l=Y at *
 obtain ⟨ev,er⟩:=Y
 dsimp only at HX M9 CS
 go_enter Tryz.func76,Tryz.ntmps76
 go_upto_region 2 with (go_at_call 105;refine CS.o.mono ?_;rintro e w2 ⟨⟨a,rfl,Ed⟩,Y0⟩;have ud:=Zh Ed;have XA:=Zh Y0;clear Ed Y0)
 clear CS
 generalize ((w.alloc (.cells (Qa kd peer src ly nm sa sl sc ba bl bc) 32)).alloc (.cells XQ 100))=w1 at *
 have ZC:Hid (∀ w',Below w1 w1 w'→w'.cell? ⟨g,0,none⟩=some (.pointer (some ⟨b,0,none⟩))∧w'.cell? ⟨w,1,none⟩=some (.int .i64 peer)):=fun w' h=>
  ⟨(EU.o.below h).cells.1,by rw [cell_of ((h.block w.heap.size (ZQ OC.o)).trans OC.o) 1];rfl⟩
 have Vj:Hid (∀ w' cs T,Below w w w'→YC w' cs T→X=((T,R),ep)→(∃ cs':List Value,Ending.returned (.agg cs.toArray) = .returned (.agg cs'.toArray)∧YC w' cs' X.1.1)∧Yl w' g b X.1.2 X.2∧Fr w (fun k=>k=b∨k=g) w w'):=fun w' cs T h1 h2 h3=>by
  rw [h3];exact ⟨⟨cs,rfl,h2⟩,kq.o.below h1,Fr.Z9 _ h1⟩
 by_cases SE:er=0
 ·subst SE
  rw [Z6 Zi] at HX
  obtain ⟨p,d,hpd⟩:=M9.o rfl
  subst hpd
  dsimp only at HX
  have HJ:=Zh (U6 b R peer w2.drew ((EU.o.room.below XA.o).below (YG _ _).drew))
  go_upto_region 4 with fail
  refine QN ?_
  refine wp_region_held_drew (S:=(fun w'=>w'.cell? ⟨g,0,none⟩=some (.pointer (some ⟨b,0,none⟩))∧w'.cell? ⟨w,1,none⟩=some (.int .i64 peer))) Zg ?_ (fun Yb=>?_)
  ·(try dsimp only)
   exact ZC.o _ XA.o.drew
  refine YA 0 (h:=YA 1 (h:=YA 2 (h:=YA 3 (h:=YA 4 (h:=YA 5 (h:=?_))))))
  refine TR 6 (h:=fun K hK=>?_)
  go_simp
  refine HJ.o.mono ?_
  rintro e w' ⟨rfl,rfl⟩
  go_wp2_with fail
  refine hK.out _ _ ?_ (fun XX=>?_)
  ·(try dsimp only)
   exact ZC.o _ XA.o.drew
  clear hK K
  try simp only [Z3.pt]
  refine YA 7 (h:=?_)
  refine wpAnyH_done Zg ?_ _
  refine Py ?_
  clear Yb XX ZC
  have T_:Hid (Below w1 w1 w2.drew):=XA.o.drew
  have p8:Hid (yh w2.drew a (.Ye p d)):=ud.o.below (YG _ _).drew
  clear XA ud HJ
  generalize w2.drew=w3 at *
  clear w2
  by_cases hj:Zz R peer=true
  ·rw [hj,Z6 Zi] at HX
   rw [hj]
   have hta:=fun (w:World) (v:Value)=>Nv (P:=Tryz.prog) w 97 188 v _ Tryz.underlying97 rfl
   obtain ⟨cv,ev,pv,ha,hP⟩:=p8.o
   obtain ⟨⟨ca,cc,Di⟩,⟨ea,ec,jb⟩,⟨pa,pc,NR⟩⟩:=hP.form
   subst Di;subst jb;subst NR
   dsimp only [Uz] at ha
   subst ha
   have oY:=Z5 w3 (.cells (Jn p ca cc ea ec pa pc d) 97)
   have Ur:Hid (Below w1 w1 (w3.alloc (.cells (Jn p ca cc ea ec pa pc d) 97))):=ZA T_.o (ZB _) _
   have CM:=Zh (vT g b R ep peer p d _ _ _ (w3.alloc (.cells (Jn p ca cc ea ec pa pc d) 97)) (EU.o.below Ur.o) hI hl (hP.below (Z' _ _)))
   have MA:=cell_of ((T_.o.block w.heap.size (ZQ OC.o)).trans OC.o) 1
   simp only [R9,R8,RT] at MA
   have dK:w.heap.size<w3.heap.size:=Px (ZQ OC.o) T_.o.size
   clear p8 hP
   dsimp only [Uz] at CM
   go_wp2_with (first|(with_reducible refine Yp 97 (.tmp 7) rfl ?_;refine Yd rfl 97 (.tmp 7) rfl w3.heap.size rfl 97 (Jn p ca cc ea ec pa pc d) (0,0) _ oY Tryz.underlying97 rfl Zg ?_)|(go_at_call 106;refine CM.o.mono ?_;rintro e w5 ⟨⟨cs,rfl,Sv⟩,LM⟩;have QI:=Zh (Ur.o.trans (LM.mono Ur.o.size));have Ki:=(QI.o.block (w.heap.size+1) (ZQ HZ.o)).trans HZ.o;have hi:=Tc Sv;have hold:=Tb Sv;have SY:=Sv.one;have Pv:=Zh Sv;clear Sv LM)|(with_reducible refine ZY 100 (.tmp 4) (.tmp 46) rfl ?_;refine ZW rfl 100 (.tmp 4) (.tmp 46) rfl rfl (w.heap.size+1) cs.toArray rfl rfl 100 XQ Ki hi hold SY ?_))
   refine VR (v:= .agg cs.toArray) ?_ rfl ?_
   ·exact qR
   exact Vj.o _ cs _ (Z0 (T9.o.trans (QI.o.mono T9.o.size)) (JK _) _) (Pv.o.setRow Ki _) HX.o
  ·exact aT
 ·exact aS
end Go.Proofs.By
namespace Go.Proofs.By
open Go.RowKit Go.Proofs.Heap
open Go.Proofs.Rm (YM YE Room Z4 Inv W9 Zb pW Hb)
open Go.Proofs.N_ (Xe)
open Go.Proofs.Mem
def Lr (g b:Nat) (R:Room) (ep:Int) (o:Rm.Op) (l:List UInt8) (w:World) (e:Ending) (w':World):Prop:=
 ∃ sv,(∃ cs:List Value,e = .returned (.agg cs.toArray)∧YC w' cs (take R ep o l sv).1.1)∧Yl w' g b (take R ep o l sv).1.2 (take R ep o l sv).2∧Fr w (fun k=>k=b∨k=g) w w'
theorem xk {R:Room} {o:Rm.Op} {sv:Value} (h:(W9 R o sv).2≠0):(W9 R o sv).1.2=R:=by
 unfold W9 at h ⊢
 split
 ·rfl
 ·rename_i h1;rw [Z6 h1] at h;exact absurd rfl h
theorem Yl.ne {w:World} {g b:Nat} {R:Room} {ep:Int} (h:Yl w g b R ep):g≠b:=by
 intro e
 obtain ⟨c,hc,_⟩:=h.room.cells
 rw [←e,h.Y8] at hc
 injection hc with hc
 injection hc with _ hc
 exact absurd hc Zd
theorem Yl.setRow {w:World} {g b:Nat} {R:Room} {ep:Int} (h:Yl w g b R ep) {X:Nat} {c:Array Value} {f:Nat × Nat} (hg:w.heap[X]?=some (.cells c 100 f)) (hXg:g≠X) (hXb:b≠X) (c':Array Value):Yl (w.setRow X c') g b R ep:=
 ⟨by rw [setRow_other w X g _ hXg];exact h.Y8,h.room.fr (We w X c') (ZB _) (fun e=>hXb e) (fun k _ _ hk=>by have hk:k=X:=hk;rw [hk,hg];intro h;injection h with h;injection h with _ h;exact absurd h Zd)⟩
theorem A1 (g b:Nat) (R:Room) (ep kd p n q:Int) (nm:List UInt8) (ss:List Int) (sa ba:Option Addr) (sc bl bc:Nat) (l:List UInt8) (w:World) (hD:Yl w g b R ep) (hI:Inv R) (hT:Xe w) (h0:0≤ep) (h9:ep<1000000000)
  (hn:nm.length<9223372036854775807) (hs:Yf w (.slice sa ss.length sc) ss.length (Zb ss))
  (hdg:kd=1→∀ w1,Below w w w1→Calls Tryz.prog 76 (Qf (some ⟨g,0,none⟩) (Qa kd p n q (str nm) sa ss.length sc ba bl bc)) w1 fun e w'=>(∃ cs:List Value,e = .returned (.agg cs.toArray)∧YC w' cs (YZ R ep p l).1.1)∧Yl w' g b (YZ R ep p l).1.2 (YZ R ep p l).2∧Fr w1 (fun k=>k=b∨k=g) w1 w') :
  Calls Tryz.prog 44 (Qf (some ⟨g,0,none⟩) (Qa kd p n q (str nm) sa ss.length sc ba bl bc)) w (Lr g b R ep ⟨kd,p,n,q,nm,ss⟩ l w):=by
 have HX:Hid (∀ sv,take R ep ⟨kd,p,n,q,nm,ss⟩ l sv=if kd=1 then YZ R ep p l else if (W9 R ⟨kd,p,n,q,nm,ss⟩ sv).2≠0 then ((Yt 6 (W9 R ⟨kd,p,n,q,nm,ss⟩ sv).2,R),ep) else ((U7 (ep+1) [] (W9 R ⟨kd,p,n,q,nm,ss⟩ sv).1.1 0,(W9 R ⟨kd,p,n,q,nm,ss⟩ sv).1.2),ep+1)):=fun sv=>rfl
 have Fq:=hD.cells.2.2.2
 have XS:=hD.room.lt
 have Br:=hD.ne
 have FB:((w.alloc (.cells (Qa kd p n q (str nm) sa ss.length sc ba bl bc) 32)).alloc (.cells XQ 100)).heap[w.heap.size]?=some (.cells (Qa kd p n q (str nm) sa ss.length sc ba bl bc) 32 (0,0)):=by
  rw [(Z' _ _).block _ DI]
  exact Z5 w _
 have hz:((w.alloc (.cells (Qa kd p n q (str nm) sa ss.length sc ba bl bc) 32)).alloc (.cells XQ 100)).heap[w.heap.size+1]?=some (.cells XQ 100 (0,0)):=by
  have h:=Z5 (w.alloc (.cells (Qa kd p n q (str nm) sa ss.length sc ba bl bc) 32)) (.cells XQ 100)
  exact kJ
 have TK:Below w w ((w.alloc (.cells (Qa kd p n q (str nm) sa ss.length sc ba bl bc) 32)).alloc (.cells XQ 100)):=ZA (Z' w _) (ZB _) _
 have EU:Hid (Yl ((w.alloc (.cells (Qa kd p n q (str nm) sa ss.length sc ba bl bc) 32)).alloc (.cells XQ 100)) g b R ep):=hD.below TK
 have OC:=Zh FB
 have HZ:=Zh hz
 have T9:=Zh TK
 have Vj:Hid (∀ w2 cs (T:(Taken × Room) × Int) sv,Fr ((w.alloc (.cells (Qa kd p n q (str nm) sa ss.length sc ba bl bc) 32)).alloc (.cells XQ 100)).heap.size (fun k=>k=b∨k=g) ((w.alloc (.cells (Qa kd p n q (str nm) sa ss.length sc ba bl bc) 32)).alloc (.cells XQ 100)) w2→YC w2 cs T.1.1→Yl w2 g b T.1.2 T.2→take R ep ⟨kd,p,n,q,nm,ss⟩ l sv=T→Lr g b R ep ⟨kd,p,n,q,nm,ss⟩ l w (.returned (.agg cs.toArray)) (w2.setRow (w.heap.size+1) cs.toArray)):=fun w2 cs T sv h1 h2 h3 h4=>by
  have SG:=(h1.block (w.heap.size+1) (ZQ hz) Zo).trans hz
  refine ⟨sv,⟨cs,rfl,by rw [h4];exact h2.setRow SG _⟩,by rw [h4];exact h3.setRow SG Zo Zo _,?_⟩
  exact Ul ((Fr.Z9 _ TK).trans (h1.mono TK.size (fun _ _ h=>h))) (JK _) _
 by_cases hk:kd=1
 ·have CD:=Zh (hdg hk _ TK)
  have E0:Hid (take R ep ⟨kd,p,n,q,nm,ss⟩ l (.slice none 0 0)=YZ R ep p l):=by show _=_;rw [HX.o,ZX hk]
  subst hk
  clear HX hdg hD hT hs FB hz TK
  generalize YZ R ep p l=X at *
  go_enter Tryz.func44,Tryz.ntmps44
  go_wp2_with (first|(go_at_call 76;refine CD.o.mono ?_;rintro e w2 ⟨⟨cs,rfl,Sv⟩,GD,G9⟩;have Ki:=(G9.block (w.heap.size+1) (ZQ HZ.o) Zo).trans HZ.o;have hi:=Tc Sv;have hold:=Tb Sv;have SY:=Sv.one;have Pv:=Zh Sv;have wU:=Zh GD;have KB:=Zh G9;clear Sv GD G9)|(with_reducible refine ZY 100 (.tmp 4) (.tmp 12) rfl ?_;refine ZW rfl 100 (.tmp 4) (.tmp 12) rfl rfl (w.heap.size+1) cs.toArray rfl rfl 100 XQ Ki hi hold SY ?_))
  refine VR (v:= .agg cs.toArray) ?_ rfl ?_
  ·exact qR
  exact Vj.o _ cs _ _ KB.o Pv.o wU.o E0.o
 ·have E0:Hid (∀ sv,take R ep ⟨kd,p,n,q,nm,ss⟩ l sv=if (W9 R ⟨kd,p,n,q,nm,ss⟩ sv).2≠0 then ((Yt 6 (W9 R ⟨kd,p,n,q,nm,ss⟩ sv).2,R),ep) else ((U7 (ep+1) [] (W9 R ⟨kd,p,n,q,nm,ss⟩ sv).1.1 0,(W9 R ⟨kd,p,n,q,nm,ss⟩ sv).1.2),ep+1)):=fun sv=>by rw [HX.o,Z6 hk]
  have CD:=Zh (pW b R ⟨kd,p,n,q,nm,ss⟩ sa ba sc bl bc ((w.alloc (.cells (Qa kd p n q (str nm) sa ss.length sc ba bl bc) 32)).alloc (.cells XQ 100)).drew (EU.o.room.below (YG _ _).drew) hI (Utf8Tabs_below hT TK.drew) hn (hs.below TK.drew))
  have ur:(kd == 1)=false:=by rw [WT];exact hk
  dsimp only at CD
  clear HX hdg hD hT hs FB hz TK
  generalize hdo:W9 R ⟨kd,p,n,q,nm,ss⟩=DO at *
  go_enter Tryz.func44,Tryz.ntmps44
  go_upto_region 3 with fail
  generalize ((w.alloc (.cells (Qa kd p n q (str nm) sa ss.length sc ba bl bc) 32)).alloc (.cells XQ 100))=w1 at *
  have cg1:=EU.o.cells.1
  have Tm:=OC.o
  refine QN ?_
  refine wp_region_held_drew (S:=(fun w'=>w'.cell? ⟨g,0,none⟩=some (.pointer (some ⟨b,0,none⟩)))) Zg ?_ (fun Yb=>?_)
  ·(try dsimp only)
   exact cg1
  refine YA 0 (h:=YA 1 (h:=YA 2 (h:=YA 3 (h:=?_))))
  refine TR 4 (h:=fun K hK=>?_)
  refine Sk Zr 32 (.tmp 3) Zr w.heap.size Zr 32 (Qa kd p n q (str nm) sa ss.length sc ba bl bc) (0,0) _ Tm Tryz.underlying32 rfl Zg ?_
  refine hK.out _ _ ?_ (fun XX=>?_)
  ·(try dsimp only)
   first|exact cg2|exact cg1
  clear hK K
  try simp only [Z3.pt]
  refine TR 5 (h:=fun K hK=>?_)
  go_simp
  refine CD.o.mono ?_
  rintro e w2 ⟨v,sv,rfl,S0,XE,Xm⟩
  rw [hdo] at S0 XE
  try rw [hdo]
  obtain ⟨va,vc,hv,-⟩:=id S0
  subst hv
  have JZ:=Zh (E0.o sv)
  have HDOR:Hid ((DO sv).2≠0→(DO sv).1.2=R):=by rw [←hdo];exact xk
  have KB:Hid (Fr w1 (fun k=>k=b∨k=g) w1 w2):=(Fr.Z9 _ (YG w1.heap.size w1).drew).trans (Xm.mono (ZB _) (fun _ _ h=>Wc h))
  have wU:Hid (Yl w2 g b (DO sv).1.2 ep):=⟨(Xm.block g (by have h:=EU.o.cells.2.2.2;exact h) Br).trans EU.o.Y8,XE⟩
  have DD:=Zh S0
  have cg2:=wU.o.cells.1
  clear S0 XE Xm CD
  generalize (DO sv).1.1.length=vn at *
  go_wp2_with fail
  refine hK.out _ _ ?_ (fun Wo=>?_)
  ·(try dsimp only)
   first|exact cg2|exact cg1
  clear hK K
  try simp only [Z3.pt]
  refine YA 6 (h:=YA 7 (h:=YA 8 (h:=YA 9 (h:=YA 10 (h:=?_)))))
  refine wpAnyH_done Zg ?_ _
  refine Py ?_
  clear Yb XX Wo
  by_cases he:(DO sv).2=0
  ·rw [he]
   rw [Z6 (by simp [he])] at JZ
   have SK:((Qm 0 0 0 0 false 0 0 0 0 none 0 0 false 0 none 0 0 none 0 0 0 0 false false 0 none 0 0 va vn vc 0):List Value).length=22:=rfl
   have CC:=Zh (J7 g (.pointer (some ⟨b,0,none⟩)) ep (Qm 0 0 0 0 false 0 0 0 0 none 0 0 false 0 none 0 0 none 0 0 0 0 false false 0 none 0 0 va vn vc 0) w2 wU.o.Y8 h0 h9 rfl Zg)
   clear SK
   have gF:Hid (YC w2 ((((Qm 0 0 0 0 false 0 0 0 0 none 0 0 false 0 none 0 0 none 0 0 0 0 false false 0 none 0 0 va vn vc 0):List Value).set 0 (.int .i64 2)).set 2 (.int .i64 (ep+1))) (U7 (ep+1) [] (DO sv).1.1 0)):=⟨_,_,_,_,_,rfl,Vk.nil _,YV.nil _,DD.o⟩
   have ko:=Zh wU.o.apart
   generalize TH:((((Qm 0 0 0 0 false 0 0 0 0 none 0 0 false 0 none 0 0 none 0 0 0 0 false false 0 none 0 0 va vn vc 0):List Value).set 0 (.int .i64 2)).set 2 (.int .i64 (ep+1)))=cs at *
   have ei:=Zh TH
   clear TH
   go_wp2_with (first|(go_at_call 79;refine CC.o.mono ?_;rintro e w5 ⟨rfl,ji,vA⟩;have JV:Hid (Fr w1 (fun k=>k=b∨k=g) w1 w5):=KB.o.trans (vA.mono KB.o.size (fun _ _ h=>Wj h));have Ki:=(JV.o.block (w.heap.size+1) (ZQ HZ.o) Zo).trans HZ.o;have Pv:Hid (YC w5 cs (U7 (ep+1) [] (DO sv).1.1 0)):=gF.o.fr vA (fun k hk=>ko.o k (Wj hk));have HD5:Hid (Yl w5 g b (DO sv).1.2 (ep+1)):=⟨ji,wU.o.room.fr vA (ZB _) (fun h=>Br (Eq.symm h)) (fun k c fr hk=>ko.o.ne Zi k c fr (Wj hk))⟩;have hi:=Tc Pv.o;have hold:=Tb Pv.o;have SY:=Pv.o.one;clear ji vA CC)|(with_reducible refine ZY 100 (.tmp 4) (.tmp 29) rfl ?_;refine ZW rfl 100 (.tmp 4) (.tmp 29) rfl rfl (w.heap.size+1) cs.toArray rfl rfl 100 XQ Ki hi hold SY ?_))
   refine VR (v:= .agg cs.toArray) ?_ rfl ?_
   ·exact qR
   exact Vj.o _ cs _ _ JV.o Pv.o HD5.o JZ.o
  ·rw [ZX he] at JZ
   have hb:((DO sv).2 != 0)=true:=by rw [TF];exact he
   have Y0:((DO sv).2 == 0)=false:=by rw [WT];exact he
   have HDR:Hid (Yl w2 g b R ep):=by have h:=wU.o;rw [HDOR.o he] at h;exact h
   clear wU
   go_wp2_with (first|(go_at_call 78;refine (Rc 6 (DO sv).2 _).mono ?_;rintro e w5 ⟨⟨cs,rfl,Sv⟩,LM⟩;have JV:Hid (Fr w1 (fun k=>k=b∨k=g) w1 w5):=KB.o.trans (Fr.Z9 _ (LM.mono KB.o.size));have Ki:=(JV.o.block (w.heap.size+1) (ZQ HZ.o) Zo).trans HZ.o;have HD5:=Zh (HDR.o.below LM);have hi:=Tc Sv;have hold:=Tb Sv;have SY:=Sv.one;have Pv:=Zh Sv;clear Sv LM)|(with_reducible refine ZY 100 (.tmp 4) (.tmp 25) rfl ?_;refine ZW rfl 100 (.tmp 4) (.tmp 25) rfl rfl (w.heap.size+1) cs.toArray rfl rfl 100 XQ Ki hi hold SY ?_))
   refine VR (v:= .agg cs.toArray) ?_ rfl ?_
   ·exact qR
   exact Vj.o _ cs _ _ JV.o Pv.o HD5.o JZ.o
structure UX where
 bad:Int
 YW:Int
 unknown:Int
 refused:Int
def M0:UX:=⟨0,0,0,0⟩
def UX.add (c:UX) (k u:Int):UX:=
 ⟨if k=3 then c.bad+1 else c.bad,if k=4 then c.YW+1 else c.YW,(if k=5 then c.unknown+1 else c.unknown)+u,if k=6 then c.refused+1 else c.refused⟩
structure UX.Below (c:UX) (n:Int):Prop where
 bad:0≤c.bad∧c.bad≤n
 YW:0≤c.YW∧c.YW≤n
 unknown:0≤c.unknown∧c.unknown≤n
 refused:0≤c.refused∧c.refused≤n
structure Uv where
 R:Room
 ep:Int
 c:UX
def iI:Uv:=⟨Rm.empty,0,M0⟩
def Uv.take (F:Uv) (o:Rm.Op) (b:List UInt8) (sv:Value):Taken × Uv:=
 ((Go.Proofs.By.take F.R F.ep o b sv).1.1,⟨(Go.Proofs.By.take F.R F.ep o b sv).1.2,(Go.Proofs.By.take F.R F.ep o b sv).2,F.c.add (Go.Proofs.By.take F.R F.ep o b sv).1.1.WH.kind (Go.Proofs.By.take F.R F.ep o b sv).1.1.unknown⟩)
end Go.Proofs.By
