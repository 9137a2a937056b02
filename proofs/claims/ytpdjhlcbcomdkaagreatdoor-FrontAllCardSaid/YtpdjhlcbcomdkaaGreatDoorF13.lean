/- Part of a proof. -/
import Derived.Test.YtpdjhlcbcomdkaaGreatDoorF12
set_option linter.unusedVariables false
set_option linter.unusedSimpArgs false
set_option maxRecDepth 100000
set_option maxHeartbeats 16000000
open Go Go.Q Go.Qr
namespace Go.Proofs.By
open Go.RowKit Go.Proofs.Heap
open Go.Proofs.Rm (YM YE Room Z4 Inv xd E3 Sp table)
def Hv (d:Nat) (c:UX):Array Value:=#[.pointer (some ⟨d,0,none⟩),.int .i64 c.bad,.int .i64 c.YW,.int .i64 c.unknown,.int .i64 c.refused,.int .i64 0,.int .i64 0,.int .i64 0,.int .i64 0]
structure Xt (w:World) (f d b:Nat) (F:Uv):Prop where
 Y8:w.heap[f]?=some (.cells (Hv d F.c) 90 (0,0))
 VO:Yl w d b F.R F.ep
theorem Xt.below {w w':World} {f d b:Nat} {F:Uv} (h:Xt w f d b F) (hb:Below w w w'):Xt w' f d b F:=⟨by rw [hb.block f (ZQ h.Y8)];exact h.Y8,h.VO.below hb⟩
theorem Xt.ne {w:World} {f d b:Nat} {F:Uv} (h:Xt w f d b F):f≠d∧f≠b∧d≠b:=by
 refine ⟨fun e=>?_,fun e=>?_,h.VO.ne⟩
 ·have h1:=h.Y8
  rw [e,h.VO.Y8] at h1
  injection h1 with h1
  injection h1 with _ h1
  exact absurd h1 Zd
 ·obtain ⟨c,hc,_⟩:=h.VO.room.cells
  rw [←e,h.Y8] at hc
  injection hc with hc
  injection hc with _ hc
  exact absurd hc Zd
theorem tQ {w:World} {pv sv uv:Value} {T:Rm.ZU} (h:Sp w pv sv uv T):(∃ a n c,pv = .slice a n c)∧(∃ a n c,sv = .slice a n c)∧(∃ a n c,uv = .slice a n c):=by
 obtain ⟨a,⟨ms,_,b,_⟩,c⟩:=h
 obtain ⟨_,_,h1⟩:=Row.form a
 obtain ⟨_,_,h2⟩:=Row.form b
 obtain ⟨_,_,h3⟩:=Row.form c
 exact ⟨⟨_,_,_,h1⟩,⟨_,_,_,h2⟩,⟨_,_,_,h3⟩⟩
theorem AH (w:World):Calls Tryz.prog 40 #[] w fun e w'=>(∃ d b,e = .returned (.pointer (some ⟨d,0,none⟩))∧Yl w' d b Rm.empty 0∧w.heap.size≤d∧w.heap.size≤b)∧Below w w w':=by
 have C:=Zh (xd w)
 go_enter Tryz.func40,Tryz.ntmps40
 go_wp2_with (go_at_call 69;refine C.o.mono ?_;rintro e w2 ⟨rfl,XE,Y0⟩;have HR:=Zh XE;have HB:=Zh Y0;clear XE Y0)
 go_ret
 exact ⟨⟨_,w.heap.size,rfl,⟨Z5 w2 _,HR.o.below (Z' w2 _)⟩,HB.o.size,ZB _⟩,ZA HB.o (ZB _) _⟩
theorem Lh (w:World):Calls Tryz.prog 16 #[] w fun e w'=>(∃ f d b,e = .returned (.pointer (some ⟨f,0,none⟩))∧Xt w' f d b iI∧w.heap.size≤f∧w.heap.size≤d∧w.heap.size≤b)∧Below w w w':=by
 have C:=Zh (AH w)
 go_enter Tryz.func16,Tryz.ntmps16
 go_wp2_with (go_at_call 40;refine C.o.mono ?_;rintro e w2 ⟨⟨d,b,rfl,hd,fg,GD⟩,Y0⟩;have HR:=Zh hd;have HB:=Zh Y0;have EU:=Zh fg;have wU:=Zh GD;clear hd Y0 fg GD)
 go_ret
 exact ⟨⟨_,d,b,rfl,⟨Z5 w2 _,HR.o.below (Z' w2 _)⟩,HB.o.size,EU.o,wU.o⟩,ZA HB.o (ZB _) _⟩
theorem Gi (g b:Nat) (R:Room) (ep:Int) (w:World) (h:Yl w g b R ep):Calls Tryz.prog 52 #[.pointer (some ⟨g,0,none⟩)] w fun e w'=>e = .returned (.int .i64 ep)∧w=w':=by
 have c1:=h.cells.2.1
 clear h
 go_enter Tryz.func52,Tryz.ntmps52
 go_wp2
 go_ret
 exact ⟨rfl,rfl⟩
theorem Dq (g b:Nat) (R:Room) (ep:Int) (w:World) (h:Yl w g b R ep):Calls Tryz.prog 46 #[.pointer (some ⟨g,0,none⟩)] w fun e w'=>e = .returned (.pointer (some ⟨b,0,none⟩))∧w=w':=by
 have c1:=h.cells.1
 clear h
 go_enter Tryz.func46,Tryz.ntmps46
 go_wp2
 go_ret
 exact ⟨rfl,rfl⟩
theorem uC (f d b:Nat) (F:Uv) (w:World) (h:Xt w f d b F):Calls Tryz.prog 23 #[.pointer (some ⟨f,0,none⟩)] w fun e w'=>e = .returned (.int .i64 F.ep)∧w=w':=by
 have c1:w.cell? ⟨f,0,none⟩=some (.pointer (some ⟨d,0,none⟩)):=cell_of h.Y8 0
 have C:=Zh (Gi d b F.R F.ep w h.VO)
 clear h
 go_enter Tryz.func23,Tryz.ntmps23
 go_wp2_with (go_at_call 52;refine C.o.mono ?_;rintro e w2 ⟨rfl,rfl⟩)
 go_ret
 exact ⟨rfl,rfl⟩
theorem Ha (f d b:Nat) (F:Uv) (w:World) (h:Xt w f d b F):Calls Tryz.prog 19 #[.pointer (some ⟨f,0,none⟩)] w fun e w'=>e = .returned (.agg (Q5 F.c.bad F.c.YW F.c.unknown F.c.refused 0 0 0 0))∧Below w w w':=by
 have GF:=ZQ h.Y8
 have c1:w.cell? ⟨f,1,none⟩=some (.int .i64 F.c.bad):=cell_of h.Y8 1
 have c2:w.cell? ⟨f,2,none⟩=some (.int .i64 F.c.YW):=cell_of h.Y8 2
 have c3:w.cell? ⟨f,3,none⟩=some (.int .i64 F.c.unknown):=cell_of h.Y8 3
 have c4:w.cell? ⟨f,4,none⟩=some (.int .i64 F.c.refused):=cell_of h.Y8 4
 have c5:w.cell? ⟨f,5,none⟩=some (.int .i64 0):=cell_of h.Y8 5
 have c6:w.cell? ⟨f,6,none⟩=some (.int .i64 0):=cell_of h.Y8 6
 have c7:w.cell? ⟨f,7,none⟩=some (.int .i64 0):=cell_of h.Y8 7
 have c8:w.cell? ⟨f,8,none⟩=some (.int .i64 0):=cell_of h.Y8 8
 clear h
 go_enter Tryz.func19,Tryz.ntmps19
 go_wp2
 refine VR (v:= .agg (Q5 F.c.bad F.c.YW F.c.unknown F.c.refused 0 0 0 0)) (by simp [results,Tryz.results19,go_sem]) rfl ⟨rfl,Z' w _⟩
theorem N8 (f d b:Nat) (F:Uv) (w:World) (h:Xt w f d b F) (hl:∀ n,(F.R.src n).ss.length≤1000000):Calls Tryz.prog 21 #[.pointer (some ⟨f,0,none⟩)] w fun e w'=>(∃ pv sv uv,e = .returned (.agg #[pv,sv,uv])∧Sp w' pv sv uv (table F.R))∧Below w w w':=by
 have GF:=ZQ h.Y8
 have c1:w.cell? ⟨f,0,none⟩=some (.pointer (some ⟨d,0,none⟩)):=cell_of h.Y8 0
 have Zj:=Z' w (.cells (Qp none 0 0 none 0 0 none 0 0) 51)
 have C1:=Zh (Dq d b F.R F.ep _ (h.VO.below Zj))
 have C2:=Zh (E3 b F.R _ (h.VO.room.below Zj) hl)
 have Wy:=Zh Zj
 have oY:=Z5 w (.cells (Qp none 0 0 none 0 0 none 0 0) 51)
 have Rj:=ZQ oY
 clear h Zj
 go_enter Tryz.func21,Tryz.ntmps21
 go_wp2_with (first|(go_at_call 46;refine C1.o.mono ?_;rintro e w2 ⟨rfl,rfl⟩)|(go_at_call 47;refine C2.o.mono ?_;rintro e w2 ⟨⟨pv,sv,uv,rfl,ht⟩,Y0⟩;obtain ⟨⟨pa,pn,pc,NR⟩,⟨sa,sn,sc,Kg⟩,⟨ua,un,uc,huv⟩⟩:=tQ ht;subst NR;subst Kg;subst huv;have HT:=Zh ht;have XA:=Zh Y0;have y0:=(Y0.block _ Rj).trans oY;clear Y0 ht)|(with_reducible refine ZY 51 (.tmp 2) (.tmp 11) rfl ?_;refine ZW rfl 51 (.tmp 2) (.tmp 11) rfl rfl w.heap.size (Qp pa pn pc sa sn sc ua un uc) rfl rfl 51 (Qp none 0 0 none 0 0 none 0 0) y0 Zg Zg Zg ?_))
 refine VR (v:= .agg (Qp pa pn pc sa sn sc ua un uc)) ?_ rfl ?_
 ·exact results_cell_row Zr _ _ w.heap.size 51 (Qp pa pn pc sa sn sc ua un uc) (0,0) _ Zr (setRow_heap _ _ _ _ _ _ y0) Tryz.underlying51 rfl Zg
 have Xh:∀ e,e≠51→∀ k c fr,k=w.heap.size→w2.heap[k]?≠some (.cells c e fr):=fun e he k c fr hk=>by
  rw [hk,y0];intro h;injection h with h;injection h with _ h;exact he h.symm
 exact ⟨⟨_,_,_,rfl,HT.o.fr (We w2 _ _) (ZB _) (Xh _ Zd) (Xh _ Zd) (Xh _ Zd) (Xh _ Zd)⟩,Z0 (Wy.o.trans (XA.o.mono Wy.o.size)) (ZB _) _⟩
open Go.Proofs.Rm (W9 Zb)
open Go.Proofs.N_ (Xe)
open Go.Proofs.Mem
def DN (a:Gg):Value:= .agg (Jo a)
def Te (f d b:Nat) (F:Uv) (o:Rm.Op) (l:List UInt8) (w:World) (e:Ending) (w':World):Prop:=
 ∃ sv,e = .returned (DN (F.take o l sv).1.WH)∧Xt w' f d b (F.take o l sv).2∧Fr w (fun k=>k=b∨k=d∨k=f) w w'
structure FM (w1 wx:World) (d b k:Nat) (cs:List Value) (T:(Taken × Room) × Int):Prop where
 fr:Fr w1 (fun j=>j=b∨j=d) w1 wx
 Y8:wx.heap[k]?=some (.cells cs.toArray 100 (0,0))
 tk:YC wx cs T.1.1
 VO:Yl wx d b T.1.2 T.2
 zn:w1.heap.size≤k
theorem Yl.fr {w w':World} {g b:Nat} {R:Room} {ep:Int} {S:Nat→Prop} (h:Yl w g b R ep) (hf:Fr w S w w') (hd:¬S g) (hb:¬S b) (hS:∀ k c fr,S k→w.heap[k]?≠some (.cells c 66 fr)):Yl w' g b R ep:=
 ⟨(hf.block g (ZQ h.Y8) hd).trans h.Y8,h.room.fr hf (ZB _) hb hS⟩
theorem UX.uW (c:UX) (k u:Int):c.add k u={c.add k 0 with unknown:=(c.add k 0).unknown+u}:=by
 unfold UX.add
 simp
theorem FM.cells {w1 wx:World} {d b k:Nat} {cs:List Value} {T:(Taken × Room) × Int} (h:FM w1 wx d b k cs T):(wx.cell? ⟨k,0,none⟩=some (.int .i64 T.1.1.WH.kind)∧wx.cell? ⟨k,1,none⟩=some (.int .i64 T.1.1.WH.source)∧wx.cell? ⟨k,2,none⟩=some (.int .i64 T.1.1.WH.SQ)∧wx.cell? ⟨k,3,none⟩=some (.int .i64 T.1.1.WH.err))∧wx.cell? ⟨k,21,none⟩=some (.int .i64 T.1.1.unknown):=by
 obtain ⟨cv,ev,pv,iv,tv,rfl,_⟩:=h.tk.ex
 exact ⟨⟨Zc h.Y8 0 rfl,Zc h.Y8 1 rfl,Zc h.Y8 2 rfl,Zc h.Y8 3 rfl⟩,Zc h.Y8 21 rfl⟩
theorem Fe {w1 w2:World} {d b:Nat} {cs:List Value} {T:(Taken × Room) × Int} {k:Nat} (h1:Fr w1 (fun j=>j=b∨j=d) w1 w2) (h2:YC w2 cs T.1.1) (h3:Yl w2 d b T.1.2 T.2) {c:Array Value} (hk:w2.heap[k]?=some (.cells c 100 (0,0))) (W_:w1.heap.size≤k) (hkd:d≠k) (ur:b≠k):FM w1 (w2.setRow k cs.toArray) d b k cs T:=
 ⟨Ul h1 W_ _,setRow_heap _ _ _ _ _ _ hk,h2.setRow hk _,h3.setRow hk hkd ur _,W_⟩
theorem EP (f d b:Nat) (F:Uv) (kd p n q:Int) (nm:List UInt8) (ss:List Int) (sa ba:Option Addr) (sc bl bc:Nat) (l:List UInt8) (w:World) (hF:Xt w f d b F) (hc:F.c.Below 1000000000)
  (hu:∀ sv,0≤(take F.R F.ep ⟨kd,p,n,q,nm,ss⟩ l sv).1.1.unknown∧(take F.R F.ep ⟨kd,p,n,q,nm,ss⟩ l sv).1.1.unknown≤1000000000)
  (ht:∀ w',Below w w w'→Calls Tryz.prog 44 (Qf (some ⟨d,0,none⟩) (Qa kd p n q (str nm) sa ss.length sc ba bl bc)) w' (Lr d b F.R F.ep ⟨kd,p,n,q,nm,ss⟩ l w')) :
  Calls Tryz.prog 18 (Qf (some ⟨f,0,none⟩) (Qa kd p n q (str nm) sa ss.length sc ba bl bc)) w (Te f d b F ⟨kd,p,n,q,nm,ss⟩ l w):=by
 have GF:=ZQ hF.Y8
 have Bo:=ZQ hF.VO.Y8
 have XS:=hF.VO.room.lt
 obtain ⟨hfd,hfb,hdb⟩:=hF.ne
 have FB:((w.alloc (.cells (Qa kd p n q (str nm) sa ss.length sc ba bl bc) 32)).alloc (.cells (Qe 0 0 0 0) 35)).heap[w.heap.size]?=some (.cells (Qa kd p n q (str nm) sa ss.length sc ba bl bc) 32 (0,0)):=by
  rw [(Z' _ _).block _ DI]
  exact Z5 w _
 have hz:((w.alloc (.cells (Qa kd p n q (str nm) sa ss.length sc ba bl bc) 32)).alloc (.cells (Qe 0 0 0 0) 35)).heap[w.heap.size+1]?=some (.cells (Qe 0 0 0 0) 35 (0,0)):=by
  have h:=Z5 (w.alloc (.cells (Qa kd p n q (str nm) sa ss.length sc ba bl bc) 32)) (.cells (Qe 0 0 0 0) 35)
  exact kJ
 have TK:Below w w ((w.alloc (.cells (Qa kd p n q (str nm) sa ss.length sc ba bl bc) 32)).alloc (.cells (Qe 0 0 0 0) 35)):=ZA (Z' w _) (ZB _) _
 have fZ:Hid (Xt ((w.alloc (.cells (Qa kd p n q (str nm) sa ss.length sc ba bl bc) 32)).alloc (.cells (Qe 0 0 0 0) 35)) f d b F):=hF.below TK
 have HT:Hid (∀ w',Below ((w.alloc (.cells (Qa kd p n q (str nm) sa ss.length sc ba bl bc) 32)).alloc (.cells (Qe 0 0 0 0) 35)).heap.size ((w.alloc (.cells (Qa kd p n q (str nm) sa ss.length sc ba bl bc) 32)).alloc (.cells (Qe 0 0 0 0) 35)) w'→Calls Tryz.prog 44 (Qf (some ⟨d,0,none⟩) (Qa kd p n q (str nm) sa ss.length sc ba bl bc)) w' (Lr d b F.R F.ep ⟨kd,p,n,q,nm,ss⟩ l w')):=fun w' h=>ht w' (TK.trans (h.mono TK.size))
 have OC:=Zh FB
 have HZ:=Zh hz
 have T9:=Zh TK
 have HU:=Zh hu
 have HC:=Zh hc
 clear hF ht FB hz TK hu hc
 have HFT:Hid (∀ sv,F.take ⟨kd,p,n,q,nm,ss⟩ l sv=((take F.R F.ep ⟨kd,p,n,q,nm,ss⟩ l sv).1.1,⟨(take F.R F.ep ⟨kd,p,n,q,nm,ss⟩ l sv).1.2,(take F.R F.ep ⟨kd,p,n,q,nm,ss⟩ l sv).2,F.c.add (take F.R F.ep ⟨kd,p,n,q,nm,ss⟩ l sv).1.1.WH.kind (take F.R F.ep ⟨kd,p,n,q,nm,ss⟩ l sv).1.1.unknown⟩)):=fun sv=>rfl
 have HPOST:Hid (∀ e w',(∃ sv,e = .returned (DN (F.take ⟨kd,p,n,q,nm,ss⟩ l sv).1.WH)∧Xt w' f d b (F.take ⟨kd,p,n,q,nm,ss⟩ l sv).2∧Fr w (fun k=>k=b∨k=d∨k=f) w w')→Te f d b F ⟨kd,p,n,q,nm,ss⟩ l w e w'):=fun e w' h=>h
 generalize Te f d b F ⟨kd,p,n,q,nm,ss⟩ l w=FP at *
 go_enter Tryz.func18,Tryz.ntmps18
 go_upto_region 1 with fail
 have sw:((w.alloc (.cells (Qa kd p n q (str nm) sa ss.length sc ba bl bc) 32)).alloc (.cells (Qe 0 0 0 0) 35)).heap.size=w.heap.size+2:=by show ((w.heap.push _).push _).size=_;rw [Rg,Rg]
 generalize ((w.alloc (.cells (Qa kd p n q (str nm) sa ss.length sc ba bl bc) 32)).alloc (.cells (Qe 0 0 0 0) 35))=w1 at *
 have cf0:w1.cell? ⟨f,0,none⟩=some (.pointer (some ⟨d,0,none⟩)):=cell_of fZ.o.Y8 0
 have ZC:Hid (∀ w',Fr w1 (fun j=>j=b∨j=d) w1 w'→w'.cell? ⟨f,0,none⟩=some (.pointer (some ⟨d,0,none⟩))∧w'.cell? ⟨w,0,none⟩=some (.int .i64 kd)∧w'.cell? ⟨w,1,none⟩=some (.int .i64 p)∧w'.cell? ⟨w,2,none⟩=some (.int .i64 n)∧w'.cell? ⟨w,3,none⟩=some (.int .i64 q)∧w'.cell? ⟨w,4,none⟩=some (.string (str nm))∧w'.cell? ⟨w,5,none⟩=some (.slice sa ss.length sc)∧w'.cell? ⟨w,6,none⟩=some (.slice ba bl bc)):=fun w' h=>
  ⟨by rw [cell_of ((h.block f Zo Zo).trans fZ.o.Y8) 0];rfl,by rw [cell_of ((h.block w.heap.size Zo Zo).trans OC.o) 0];rfl,by rw [cell_of ((h.block w.heap.size Zo Zo).trans OC.o) 1];rfl,by rw [cell_of ((h.block w.heap.size Zo Zo).trans OC.o) 2];rfl,by rw [cell_of ((h.block w.heap.size Zo Zo).trans OC.o) 3];rfl,by rw [cell_of ((h.block w.heap.size Zo Zo).trans OC.o) 4];rfl,by rw [cell_of ((h.block w.heap.size Zo Zo).trans OC.o) 5];rfl,by rw [cell_of ((h.block w.heap.size Zo Zo).trans OC.o) 6];rfl⟩
 go_upto_region 3 with fail
 go_cut [5] (fun t5 wx=>∃ (k:Nat) (cs:List Value) (sv:Value),t5 = .pointer (some ⟨k,0,none⟩)∧FM w1 wx d b k cs (take F.R F.ep ⟨kd,p,n,q,nm,ss⟩ l sv))
 case first=>
  refine QN ?_
  refine wp_region_held_drew (S:=(fun w'=>w'.cell? ⟨f,0,none⟩=some (.pointer (some ⟨d,0,none⟩))∧w'.cell? ⟨w,0,none⟩=some (.int .i64 kd)∧w'.cell? ⟨w,1,none⟩=some (.int .i64 p)∧w'.cell? ⟨w,2,none⟩=some (.int .i64 n)∧w'.cell? ⟨w,3,none⟩=some (.int .i64 q)∧w'.cell? ⟨w,4,none⟩=some (.string (str nm))∧w'.cell? ⟨w,5,none⟩=some (.slice sa ss.length sc)∧w'.cell? ⟨w,6,none⟩=some (.slice ba bl bc))) Zg ?_ (fun Yb=>?_)
  ·(try dsimp only)
   exact ZC.o _ (Fr.Z9 _ (YG _ _).drew)
  refine YA 0 (h:=YA 1 (h:=YA 2 (h:=YA 3 (h:=YA 4 (h:=?_)))))
  refine wpAnyH_ready (rs:=[5,6]) Zg Zi ?_
  refine AllReadyH.cons (i:=5) rfl (fun K hK=>?_) ?_
  ·skip
   go_simp
   first|refine (HT.o _ (YG _ _).drew).mono ?_|refine (HT.o _ (Z' _ _).drew).mono ?_
   rintro e w2 ⟨sv,⟨cs,rfl,Sv⟩,GD,G9⟩
   go_wp2_with fail
   have hi:=Tc Sv
   have hold:=Tb Sv
   have SY:=Sv.one
   have Pv:=Zh Sv
   have wU:=Zh GD
   have KB:Hid (Fr w1 (fun j=>j=b∨j=d) w1 w2):=by first|exact (Fr.Z9 _ (YG w1.heap.size w1).drew).trans G9|exact (Fr.Z9 _ (Z' w1 (.cells XQ 100)).drew).trans (G9.mono (by show _≤(w1.heap.push _).size;rw [Rg];exact JK _) (fun _ _ h=>h))
   try (have hkB:w2.heap[w.heap.size+2]?=some (.cells XQ 100 (0,0)):=by rw [←sw];exact (G9.block w1.heap.size (by show _<(w1.heap.push _).size;rw [Rg];exact Nat.lt_succ_self _) Zo).trans (Z5 w1 _))
   have Nk:=KB.o.size
   clear Sv GD G9
   refine hK.out _ _ ?_ (fun XX=>?_)
   ·exact uT
   clear hK K
   try simp only [Z3.pt]
   refine TR 6 (h:=fun K hK=>?_)
   go_simp
   refine hK.out _ _ ?_ (fun Wo=>?_)
   ·exact uT
   clear hK K
   try simp only [Z3.pt]
   refine TR 7 (h:=fun K hK=>?_)
   first|refine RO Zr 100 (.tmp 5) (.tmp 14) Zr Zr w2.heap.size cs.toArray Zr Zr 100 XQ (Z5 w2 _) hi hold SY ?_|refine RO Zr 100 (.tmp 5) (.tmp 14) Zr Zr (w.heap.size+2) cs.toArray Zr Zr 100 XQ hkB hi hold SY ?_
   refine hK.out _ _ ?_ (fun Oc=>?_)
   ·exact uT
   exact bp
  refine AllReadyH.cons (i:=6) rfl (fun K hK=>?_) AllReadyH.nil
  go_simp
  refine hK.out _ _ ?_ (fun H_=>?_)
  ·exact uT
  clear hK K
  try simp only [Z3.pt]
  refine TR 5 (h:=fun K hK=>?_)
  go_simp
  first|refine (HT.o _ (YG _ _).drew).mono ?_|refine (HT.o _ (Z' _ _).drew).mono ?_
  rintro e w2 ⟨sv,⟨cs,rfl,Sv⟩,GD,G9⟩
  go_wp2_with fail
  have hi:=Tc Sv
  have hold:=Tb Sv
  have SY:=Sv.one
  have Pv:=Zh Sv
  have wU:=Zh GD
  have KB:Hid (Fr w1 (fun j=>j=b∨j=d) w1 w2):=by first|exact (Fr.Z9 _ (YG w1.heap.size w1).drew).trans G9|exact (Fr.Z9 _ (Z' w1 (.cells XQ 100)).drew).trans (G9.mono (by show _≤(w1.heap.push _).size;rw [Rg];exact JK _) (fun _ _ h=>h))
  try (have hkB:w2.heap[w.heap.size+2]?=some (.cells XQ 100 (0,0)):=by rw [←sw];exact (G9.block w1.heap.size (by show _<(w1.heap.push _).size;rw [Rg];exact Nat.lt_succ_self _) Zo).trans (Z5 w1 _))
  have Nk:=KB.o.size
  clear Sv GD G9
  refine hK.out _ _ ?_ (fun D_=>?_)
  ·exact uT
  clear hK K
  try simp only [Z3.pt]
  refine TR 7 (h:=fun K hK=>?_)
  first|refine RO Zr 100 (.tmp 5) (.tmp 14) Zr Zr w2.heap.size cs.toArray Zr Zr 100 XQ (Z5 w2 _) hi hold SY ?_|refine RO Zr 100 (.tmp 5) (.tmp 14) Zr Zr (w.heap.size+2) cs.toArray Zr Zr 100 XQ hkB hi hold SY ?_
  refine hK.out _ _ ?_ (fun rM=>?_)
  ·exact uT
  exact bp
 case rest=>
  obtain ⟨wx,rfl⟩:∃ W:World,W=wc:=⟨_,rfl⟩
  obtain ⟨k,cs,sv,rfl,jh⟩:=hcut
  have HU1:=Zh (HU.o sv)
  have HFT1:=Zh (HFT.o sv)
  clear HU HFT HT ZC cf0
  generalize take F.R F.ep ⟨kd,p,n,q,nm,ss⟩ l sv=T at *
  obtain ⟨⟨q0,q1,q2,q3⟩,q21⟩:=jh.cells
  have HFM:=Zh jh
  have W_:=jh.zn
  have jo:k<wx.heap.size:=ZQ jh.Y8
  have Ax:wx.heap[f]?=some (.cells (Hv d F.c) 90 (0,0)):=(jh.fr.block f Zo Zo).trans fZ.o.Y8
  have TJ:wx.heap[w.heap.size+1]?=some (.cells (Qe 0 0 0 0) 35 (0,0)):=(jh.fr.block _ Zo Zo).trans HZ.o
  have cb1:wx.cell? ⟨f,1,none⟩=some (.int .i64 F.c.bad):=cell_of Ax 1
  have cb2:wx.cell? ⟨f,2,none⟩=some (.int .i64 F.c.YW):=cell_of Ax 2
  have cb3:wx.cell? ⟨f,3,none⟩=some (.int .i64 F.c.unknown):=cell_of Ax 3
  have cb4:wx.cell? ⟨f,4,none⟩=some (.int .i64 F.c.refused):=cell_of Ax 4
  have ff1:=ZI Ax 1
  have ff2:=ZI Ax 2
  have ff3:=ZI Ax 3
  have ff4:=ZI Ax 4
  obtain ⟨⟨l1,l2⟩,⟨l3,l4⟩,⟨l5,l6⟩,⟨l7,l8⟩⟩:=HC.o
  have wr1:IntKind.i64.wrap (F.c.bad+1)=F.c.bad+1:=Ua _ Zo
  have wr2:IntKind.i64.wrap (F.c.YW+1)=F.c.YW+1:=Ua _ Zo
  have wr3:IntKind.i64.wrap (F.c.unknown+1)=F.c.unknown+1:=Ua _ Zo
  have wr4:IntKind.i64.wrap (F.c.refused+1)=F.c.refused+1:=Ua _ Zo
  clear jh fZ OC HZ
  have ed:=Zh Ax
  have HBFX:=Zh Ax
  clear Ax
  have uw:k≠f:=by omega
  generalize ux:T.1.1.WH.kind=kk at *
  have HKK:=Zh ux
  clear ux
  go_upto_block 0 with fail
  go_cut [] (fun wy=>∃ c1:UX,Hid (c1=F.c.add kk 0)∧wy.heap[f]?=some (.cells (Hv d c1) 90 (0,0))∧Fr wx (· = f) wx wy∧0≤c1.unknown∧c1.unknown≤1000000001)
  case first=>
   by_cases k3:kk=3
   ·subst k3
    go_wp2_with fail
    go_meet
    exact ⟨⟨F.c.bad+1,F.c.YW,F.c.unknown,F.c.refused⟩,by show _=_;simp [UX.add],WA ed.o 1 _,(Fr.refl _ _ _).setAt 1 _,l5,by show F.c.unknown≤_;omega⟩
   have e3:(kk == 3)=false:=by rw [WT];exact k3
   by_cases k4:kk=4
   ·subst k4
    go_wp2_with fail
    go_meet
    exact ⟨⟨F.c.bad,F.c.YW+1,F.c.unknown,F.c.refused⟩,by show _=_;simp [UX.add],WA ed.o 2 _,(Fr.refl _ _ _).setAt 2 _,l5,by show F.c.unknown≤_;omega⟩
   have e4:(kk == 4)=false:=by rw [WT];exact k4
   by_cases k5:kk=5
   ·subst k5
    go_wp2_with fail
    go_meet
    exact ⟨⟨F.c.bad,F.c.YW,F.c.unknown+1,F.c.refused⟩,by show _=_;simp [UX.add],WA ed.o 3 _,(Fr.refl _ _ _).setAt 3 _,by show 0≤F.c.unknown+1;omega,by show F.c.unknown+1≤_;omega⟩
   have e5:(kk == 5)=false:=by rw [WT];exact k5
   by_cases k6:kk=6
   ·subst k6
    go_wp2_with fail
    go_meet
    exact ⟨⟨F.c.bad,F.c.YW,F.c.unknown,F.c.refused+1⟩,by show _=_;simp [UX.add],WA ed.o 4 _,(Fr.refl _ _ _).setAt 4 _,l5,by show F.c.unknown≤_;omega⟩
   have e6:(kk == 6)=false:=by rw [WT];exact k6
   go_wp2_with fail
   go_meet
   exact ⟨F.c,by show _=_;simp [UX.add,k3,k4,k5,k6],ed.o,Fr.refl _ _ _,l5,Zo⟩
  case rest=>
   obtain ⟨c1,HC1,Ax,Xm,u1,u2⟩:=hcut
   have HBF1:=Zh Ax
   have U5:=Zh Xm
   have cu:wc.cell? ⟨f,3,none⟩=some (.int .i64 c1.unknown):=cell_of Ax 3
   have fu:=ZI Ax 3
   have p0:=(Fr.cell Xm (p:=⟨k,0,none⟩) jo uw).trans q0
   have p1:=(Fr.cell Xm (p:=⟨k,1,none⟩) jo uw).trans q1
   have p2:=(Fr.cell Xm (p:=⟨k,2,none⟩) jo uw).trans q2
   have p3:=(Fr.cell Xm (p:=⟨k,3,none⟩) jo uw).trans q3
   have fH:=(Fr.cell Xm (p:=⟨k,21,none⟩) jo uw).trans q21
   have SG:=(Xm.block (w.heap.size+1) (ZQ TJ) Zo).trans TJ
   obtain ⟨v1,v2⟩:=HU1.o
   have hww:IntKind.i64.wrap (c1.unknown+T.1.1.unknown)=c1.unknown+T.1.1.unknown:=Ua _ Zo
   have hkf':f≠k:=fun e=>uw e.symm
   clear cb1 cb2 cb3 cb4 ff1 ff2 ff3 ff4 q0 q1 q2 q3 q21 wr1 wr2 wr3 wr4 ed TJ Ax Xm
   go_upto_region 13 with fail
   refine QN ?_
   refine wp_region_held_drew (S:=(fun w'=>w'.cell? ⟨k,21,none⟩=some (.int .i64 T.1.1.unknown))) Zg ?_ (fun Yb=>?_)
   ·(try dsimp only)
    exact fH
   refine YA 0 (h:=YA 1 (h:=YA 2 (h:=YA 3 (h:=YA 5 (h:=YA 6 (h:=?_))))))
   refine TR 4 (h:=fun K hK=>?_)
   go_simp
   refine hK.out _ _ ?_ (fun XX=>?_)
   ·(try dsimp only)
    first|exact fH|exact Th fH uw
   clear hK K
   try simp only [Z3.pt]
   refine YA 7 (h:=YA 8 (h:=YA 9 (h:=YA 10 (h:=?_))))
   refine TR 11 (h:=fun K hK=>?_)
   go_simp
   refine hK.out _ _ ?_ (fun Wo=>?_)
   ·(try dsimp only)
    first|exact fH|exact Th fH uw
   clear hK K
   try simp only [Z3.pt]
   refine wpAnyH_done Zg ?_ _
   refine Py ?_
   clear Yb XX Wo
   have r0:((wc.setCell ⟨f,3,none⟩ (.int .i64 (c1.unknown+T.1.1.unknown))).drew).cell? ⟨k,0,none⟩=some (.int .i64 kk):=Th p0 uw
   have r1:((wc.setCell ⟨f,3,none⟩ (.int .i64 (c1.unknown+T.1.1.unknown))).drew).cell? ⟨k,1,none⟩=some (.int .i64 T.1.1.WH.source):=Th p1 uw
   have r2:((wc.setCell ⟨f,3,none⟩ (.int .i64 (c1.unknown+T.1.1.unknown))).drew).cell? ⟨k,2,none⟩=some (.int .i64 T.1.1.WH.SQ):=Th p2 uw
   have r3:((wc.setCell ⟨f,3,none⟩ (.int .i64 (c1.unknown+T.1.1.unknown))).drew).cell? ⟨k,3,none⟩=some (.int .i64 T.1.1.WH.err):=Th p3 uw
   have y1:((wc.setCell ⟨f,3,none⟩ (.int .i64 (c1.unknown+T.1.1.unknown))).drew).heap[f]?=some (.cells (Hv d {c1 with unknown:=c1.unknown+T.1.1.unknown}) 90 (0,0)):=WA HBF1.o 3 _
   have y2:((wc.setCell ⟨f,3,none⟩ (.int .i64 (c1.unknown+T.1.1.unknown))).drew).heap[w.heap.size+1]?=some (.cells (Qe 0 0 0 0) 35 (0,0)):=(Hk wc ⟨f,3,none⟩ _ (w.heap.size+1) (by show w.heap.size+1≠f;omega)).trans SG
   have Dv:Hid (Fr wx (· = f) wx ((wc.setCell ⟨f,3,none⟩ (.int .i64 (c1.unknown+T.1.1.unknown))).drew)):=(U5.o.setAt 3 _).drew
   clear p0 p1 p2 p3 fH cu fu SG HBF1 U5
   generalize (wc.setCell ⟨f,3,none⟩ (.int .i64 (c1.unknown+T.1.1.unknown))).drew=we at *
   go_wp2_with (with_reducible refine ZY 35 (.tmp 4) (.tmp 74) rfl ?_;refine ZW rfl 35 (.tmp 4) (.tmp 74) rfl rfl (w.heap.size+1) (Qe kk T.1.1.WH.source T.1.1.WH.SQ T.1.1.WH.err) rfl rfl 35 (Qe 0 0 0 0) y2 Zg Zg Zg ?_)
   refine VR (v:= .agg (Qe kk T.1.1.WH.source T.1.1.WH.SQ T.1.1.WH.err)) ?_ rfl ?_
   ·exact results_cell_row Zr _ _ (w.heap.size+1) 35 (Qe kk T.1.1.WH.source T.1.1.WH.SQ T.1.1.WH.err) (0,0) _ Zr (setRow_heap _ _ _ _ _ _ y2) Tryz.underlying35 rfl Zg
   refine HPOST.o _ _ ⟨sv,?_,?_,?_⟩
   ·rw [HFT1.o,←HKK.o];rfl
   ·rw [HFT1.o]
    refine ⟨?_,?_⟩
    ·show (we.setRow _ _).heap[f]?=some (.cells (Hv d (F.c.add kk T.1.1.unknown)) _ _)
     rw [setRow_other we _ f _ Zo,y1,UX.uW F.c kk,←HC1.o]
    ·have h1:=HFM.o.VO.fr Dv.o (fun e=>by have e:d=f:=e;omega) (fun e=>by have e:b=f:=e;omega) (fun j c fr hj=>by have hj:j=f:=hj;rw [hj,HBFX.o];intro h;injection h with h;injection h with _ h;exact absurd h Zd)
     exact h1.fr (We we _ _) (fun e=>by have e:d=w.heap.size+1:=e;omega) (fun e=>by have e:b=w.heap.size+1:=e;omega) (fun j c fr hj=>by have hj:j=w.heap.size+1:=hj;rw [hj,y2];intro h;injection h with h;injection h with _ h;exact absurd h Zd)
   ·have g1:Fr w (fun k=>k=b∨k=d∨k=f) w wx:=(Fr.Z9 _ T9.o).trans (HFM.o.fr.mono T9.o.size (fun _ _ h=>h.elim Wc (fun h=>Wj (Wc h))))
    exact Ul (g1.trans (Dv.o.mono g1.size (fun _ _ h=>Wj (Wj h)))) (JK _) _
end Go.Proofs.By
namespace Go.Proofs.By
open Go.RowKit Go.Proofs.Heap
open Go.Proofs.Rm (YM YE Room Z4 Inv W9 Zb eK XF Pc U2 WZ RN VG Yo turns)
open Go.Proofs.N_ (Xe)
open Go.Proofs.Mem
def Plain (l:List UInt8):Prop:=¬(192≤at8 l 1∧at8 l 1≤223)
theorem Hq {R:Room} {ep p:Int} {l:List UInt8} (h:Plain l):(YZ R ep p l).1.1.unknown=0∧(YZ R ep p l).1.2=R∧(YZ R ep p l).2=ep:=by
 unfold YZ
 by_cases h1:(X0 l).2≠0
 ·rw [ZX h1];exact ⟨rfl,rfl,rfl⟩
 rw [Z6 h1]
 by_cases h2:(!Rm.Zz R p)=true
 ·rw [ZX h2];exact ⟨rfl,rfl,rfl⟩
 rw [Z6 h2]
 obtain ⟨P,d,hp⟩:=M5 h Zo
 rw [hp]
 dsimp only
 refine ⟨?_,rfl,rfl⟩
 unfold VS
 split <;> rfl
theorem Ab {R:Room} {ep:Int} {o:Rm.Op} {l:List UInt8} {sv:Value} (h:o.kind=1→Plain l):(take R ep o l sv).1.1.unknown=0:=by
 unfold take
 by_cases h1:o.kind=1
 ·rw [ZX h1];exact (Hq (h h1)).1
 rw [Z6 h1]
 split <;> rfl
theorem JU (f d b:Nat) (F:Uv) (kd p n q:Int) (nm:List UInt8) (ss:List Int) (sa ba:Option Addr) (sc bl bc:Nat) (l:List UInt8) (w:World) (hF:Xt w f d b F) (hc:F.c.Below 1000000000) (hI:Inv F.R) (hl:∀ n,(F.R.src n).ss.length≤1000000) (hT:Xe w) (h0:0≤F.ep) (h9:F.ep<1000000000)
  (hn:nm.length<9223372036854775807) (hs:Yf w (.slice sa ss.length sc) ss.length (Zb ss)) (hb:kd=1→Yn w (.slice ba bl bc) l∧Plain l) :
  Calls Tryz.prog 18 (Qf (some ⟨f,0,none⟩) (Qa kd p n q (str nm) sa ss.length sc ba bl bc)) w (Te f d b F ⟨kd,p,n,q,nm,ss⟩ l w):=by
 refine EP f d b F kd p n q nm ss sa ba sc bl bc l w hF hc (fun sv=>?_) (fun w' h=>?_)
 ·rw [Ab (fun h=>(hb h).2)];exact ⟨Zo,Zo⟩
 ·refine A1 d b F.R F.ep kd p n q nm ss sa ba sc bl bc l w' (hF.VO.below h) hI (Utf8Tabs_below hT h) h0 h9 hn (hs.below h) (fun hk w1 h1=>?_)
  exact Ob d b F.R F.ep kd p n q (str nm) sa ba ss.length sc bl bc l w1 ((hF.VO.below h).below h1) hI hl (((hb hk).1.below h).below h1) (hb hk).2
structure QM where
 x:eK
 b:List UInt8
structure Lp (w:World) (v:Value) (L:List QM):Prop where
 row:Row w 32 v L.length (L.flatMap fun y=>XF y.x)
 each:∀ y∈L,Row w 66 (.slice y.x.sa y.x.o.ZO.length y.x.sc) y.x.o.ZO.length (Zb y.x.o.ZO)∧Row w 5 (.slice y.x.ba y.x.bl y.x.bc) y.b.length (Sr y.b)∧y.x.o.name.length<9223372036854775807
theorem Lp.below {w w':World} {v:Value} {L:List QM} (h:Lp w v L) (hb:Below w w w'):Lp w' v L:=⟨h.row.below hb,fun y hy=>⟨(h.each y hy).1.below hb,(h.each y hy).2.1.below hb,(h.each y hy).2.2⟩⟩
theorem Lp.fr {w w':World} {v:Value} {L:List QM} {S:Nat→Prop} (h:Lp w v L) (hf:Fr w S w w') (hS:N7 w S):Lp w' v L:=
 ⟨Row.fr h.row hf (ZB _) (hS.ne Zi),fun y hy=>⟨Row.fr (h.each y hy).1 hf (ZB _) (hS.ne Zi),Row.fr (h.each y hy).2.1 hf (ZB _) (hS.ne Zi),(h.each y hy).2.2⟩⟩
theorem Xt.apart {w:World} {f d b:Nat} {F:Uv} (h:Xt w f d b F):N7 w (fun k=>k=b∨k=d∨k=f):=by
 rintro k (rfl|rfl|rfl)
 ·exact h.VO.apart k (Wc rfl)
 ·exact h.VO.apart k (Wj rfl)
 ·exact ⟨_,_,_,h.Y8,by decide,by decide,by decide,by decide,by decide,by decide,by decide⟩
def fI:List UInt8:=[128,96,0,7,0,0,0,50,0,0,0,10,192,90,0,9,5]
def Nc:Nat→Rm.Op
 | 0=>⟨2,1,0,0,[97,110,110],[]⟩
 | 1=>⟨2,2,0,0,[98,111,98],[]⟩
 | 2=>⟨4,1,3,0,[],[10,11]⟩
 | 3=>⟨6,2,3,0,[],[]⟩
 | _=>⟨1,1,0,0,[],[]⟩
def bG:Nat→List UInt8
 | 4=>fI
 | _=>[]
def u7 (h:Nat):List QM:=[⟨⟨Nc 0,none,0,none,0,0⟩,[]⟩,⟨⟨Nc 1,none,0,none,0,0⟩,[]⟩,⟨⟨Nc 2,some ⟨h,0,none⟩,2,none,0,0⟩,[]⟩,⟨⟨Nc 3,none,0,none,0,0⟩,[]⟩,⟨⟨Nc 4,none,0,some ⟨h+1,0,none⟩,17,17⟩,fI⟩]
theorem zB (w:World):Calls Tryz.prog 68 (Qv 7 10) w fun e w'=>e = .returned (.slice (some ⟨w,0,none⟩) 17 17)∧w'=w.alloc (.cells (Sr fI).toArray 5):=by
 go_enter Tryz.func68,Tryz.ntmps68
 go_wp2
 go_ret
 exact ⟨rfl,rfl⟩
theorem KH (w:World):Calls Tryz.prog 39 #[] w fun e w'=>e = .returned (.slice (some ⟨w.heap.size+2,0,none⟩) 5 5)∧Lp w' (.slice (some ⟨w.heap.size+2,0,none⟩) 5 5) (u7 w.heap.size)∧Below w w w':=by
 have C:=Zh zB
 go_enter Tryz.func39,Tryz.ntmps39
 go_wp2_with (go_at_call 68;refine (C.o _).mono ?_;rintro e w2 ⟨rfl,rfl⟩)
 exact Yx33
def bR:Nat→Value→Room
 | 0,_=>Rm.empty
 | 1,_=>Rm.empty.setName 1 [97,110,110]
 | 2,_=>(Rm.empty.setName 1 [97,110,110]).setName 2 [98,111,98]
 | 3,sv=>((Rm.empty.setName 1 [97,110,110]).setName 2 [98,111,98]).Zt 3 ⟨true,3,1,sv,[10,11],false⟩
 | _,sv=>(((Rm.empty.setName 1 [97,110,110]).setName 2 [98,111,98]).Zt 3 ⟨true,3,1,sv,[10,11],false⟩).ZZ 3 2 ⟨true,false,0⟩
def bE:Nat→Int
 | 0=>0
 | 1=>1
 | 2=>2
 | 3=>3
 | _=>4
def bF (k:Nat) (sv:Value):Uv:=⟨bR k sv,bE k,M0⟩
def bA:Nat→Gg
 | 0=>⟨0,0,0,0⟩
 | 1=>⟨2,0,1,0⟩
 | 2=>⟨2,0,2,0⟩
 | 3=>⟨2,0,3,0⟩
 | 4=>⟨2,0,4,0⟩
 | _=>⟨1,3,4,0⟩
theorem bw0 (sv:Value):Yo (bR 0 sv) (Nc 0)=0:=by kernel_rfl
theorem bw1 (sv:Value):Yo (bR 1 sv) (Nc 1)=0:=by kernel_rfl
theorem bw2 (sv:Value):Yo (bR 2 sv) (Nc 2)=0:=by kernel_rfl
theorem bw3 (sv:Value):Yo (bR 3 sv) (Nc 3)=0:=by kernel_rfl
theorem bw5 (sv:Value):Yo (bR 5 sv) ⟨0,0,0,0,[],[]⟩=4:=by kernel_rfl
theorem Sb {R:Room} {o:Rm.Op} {sv:Value} (h:Yo R o=0):W9 R o sv=(turns R o sv,0):=by unfold W9;rw [h];simp
theorem yI:∀ k,∀ sv,Inv (bR k sv)
 | 0,sv=>U2
 | 1,sv=>by have:=Pc (yI 0 sv) (Nc 0) sv;rw [Sb (bw0 sv)] at this;exact this
 | 2,sv=>by have:=Pc (yI 1 sv) (Nc 1) sv;rw [Sb (bw1 sv)] at this;exact this
 | 3,sv=>by have:=Pc (yI 2 sv) (Nc 2) sv;rw [Sb (bw2 sv)] at this;exact this
 | 4,sv=>by have:=Pc (yI 3 sv) (Nc 3) sv;rw [Sb (bw3 sv)] at this;exact this
 | k+5,sv=>yI 4 sv
theorem J4:∀ k,∀ sv,WZ (bR k sv)
 | 0,sv=>VG
 | 1,sv=>by have:=RN (J4 0 sv) (Nc 0) sv;rw [Sb (bw0 sv)] at this;exact this
 | 2,sv=>by have:=RN (J4 1 sv) (Nc 1) sv;rw [Sb (bw1 sv)] at this;exact this
 | 3,sv=>by have:=RN (J4 2 sv) (Nc 2) sv;rw [Sb (bw2 sv)] at this;exact this
 | 4,sv=>by have:=RN (J4 3 sv) (Nc 3) sv;rw [Sb (bw3 sv)] at this;exact this
 | k+5,sv=>J4 4 sv
theorem SU {F:Uv} {o:Rm.Op} {l:List UInt8} {sv:Value} (h1:o.kind≠1) (h2:Yo F.R o=0):F.take o l sv=(U7 (F.ep+1) [] (turns F.R o sv).1 0,⟨(turns F.R o sv).2,F.ep+1,F.c.add 2 0⟩):=by
 unfold Uv.take By.take
 rw [Z6 h1,Sb h2]
 rfl
theorem bC (k:Nat) (hk:k<5) (sv QB:Value):∃ uA,((bF k sv).take (Nc k) (bG k) QB).1.WH=bA (k+1)∧((bF k sv).take (Nc k) (bG k) QB).2=bF (k+1) uA:=by
 have:k=0∨k=1∨k=2∨k=3∨k=4:=by omega
 rcases this with rfl|rfl|rfl|rfl|rfl
 ·exact ⟨sv,by rw [SU (F:=bF 0 sv) (o:=Nc 0) Zd (bw0 sv)];kernel_rfl,by rw [SU (F:=bF 0 sv) (o:=Nc 0) Zd (bw0 sv)];kernel_rfl⟩
 ·exact ⟨sv,by rw [SU (F:=bF 1 sv) (o:=Nc 1) Zd (bw1 sv)];kernel_rfl,by rw [SU (F:=bF 1 sv) (o:=Nc 1) Zd (bw1 sv)];kernel_rfl⟩
 ·exact ⟨QB,by rw [SU (F:=bF 2 sv) (o:=Nc 2) Zd (bw2 sv)];kernel_rfl,by rw [SU (F:=bF 2 sv) (o:=Nc 2) Zd (bw2 sv)];kernel_rfl⟩
 ·exact ⟨sv,by rw [SU (F:=bF 3 sv) (o:=Nc 3) Zd (bw3 sv)];kernel_rfl,by rw [SU (F:=bF 3 sv) (o:=Nc 3) Zd (bw3 sv)];kernel_rfl⟩
 ·exact ⟨sv,by kernel_rfl,by kernel_rfl⟩
theorem lA (sv QB:Value):((bF 5 sv).take ⟨0,0,0,0,[],[]⟩ [] QB).1.WH=⟨6,0,0,4⟩∧((bF 5 sv).take ⟨0,0,0,0,[],[]⟩ [] QB).2=⟨bR 5 sv,4,⟨0,0,0,1⟩⟩:=by
 have h:W9 (bR 5 sv) ⟨0,0,0,0,[],[]⟩ QB=(([],bR 5 sv),4):=by unfold W9;rw [bw5];rfl
 have h2:(bF 5 sv).take ⟨0,0,0,0,[],[]⟩ [] QB=(Yt 6 4,⟨bR 5 sv,4,M0.add 6 0⟩):=by
  unfold Uv.take By.take
  rw [Z6 Zd]
  show _=_
  have e:(bF 5 sv).R=bR 5 sv:=rfl
  rw [e,h]
  rfl
 rw [h2]
 exact ⟨rfl,rfl⟩
theorem nK (h k:Nat) (hk:k<5):∃ sa sc ba bl bc,(u7 h)[k]?=some ⟨⟨Nc k,sa,sc,ba,bl,bc⟩,bG k⟩:=by
 have:k=0∨k=1∨k=2∨k=3∨k=4:=by omega
 rcases this with rfl|rfl|rfl|rfl|rfl <;> exact ⟨_,_,_,_,_,rfl⟩
theorem iz (k:Nat) (hk:k<5):(Nc k).kind=1→Plain (bG k):=by
 have:k=0∨k=1∨k=2∨k=3∨k=4:=by omega
 rcases this with rfl|rfl|rfl|rfl|rfl
 ·intro h;exact absurd h Zd
 ·intro h;exact absurd h Zd
 ·intro h;exact absurd h Zd
 ·intro h;exact absurd h Zd
 ·intro _;unfold Plain;decide
theorem bTab (sv:Value):(Rm.table (bR 5 sv)).ZK.length=2:=by kernel_rfl
open Go.Proofs.Rm (WB of Y7 Zz ZH MV PM Oq)
structure TP (i:R6):Prop where
 m0:0≤i.Ye
 m1:i.Ye<4294967296
 g:i.gone.length≤128
 b:i.blocks.length≤128
 p:i.XV.length≤128
theorem Xu (b:List UInt8) (p:Int):get b p 4<4294967296:=by
 unfold get
 split
 ·exact iC qK
 ·decide
theorem P5:TP X8:=⟨by decide,by decide,by decide,by decide,by decide⟩
theorem wz (b:List UInt8):TP (report b):=⟨by show (0:Int)≤0;decide,by show (0:Int)<4294967296;decide,TS _,by show ((List.range (at8 b 0 % 32)).map _).length≤128;rw [UM,List.length_range];omega,TS _⟩
theorem FH {b:List UInt8} (h:b.length≤512) (p:Nat):(Ya b p).length≤128:=by unfold Ya;rw [UM,List.length_range];omega
theorem tA {b:List UInt8} (h:b.length≤512) (k:Nat):TP (parts b k):=by
 unfold parts
 by_cases h1:k=203
 ·rw [ZX h1]
  exact ⟨by show (0:Int)≤0;decide,by show (0:Int)<4294967296;decide,by show ((Ya b 4).map _).length≤128;rw [UM];exact FH h 4,TS _,TS _⟩
 ·rw [Z6 h1]
  have hg:=Xu b 8
  exact ⟨by show (0:Int)≤(get b 8 4:Int);omega,by show (get b 8 4:Int)<4294967296;omega,TS _,TS _,by show ((Ya b 12).map _).length≤128;rw [UM];exact FH h 12⟩
theorem Ik {b:List UInt8} (h:b.length≤512):TP (Ze b).1.1:=by
 unfold Ze
 split
 ·exact P5
 split
 ·exact P5
 split
 ·exact P5
 split
 ·unfold Yc
  split
  ·exact P5
  ·exact wz b
 dsimp only
 split
 ·exact P5
 split
 ·exact P5
 ·exact tA qK _
theorem Il:∀ (k:Nat) (b:List UInt8),b.length≤512→(∀ i∈(YT k b).1,TP i)∧(YT k b).1.length≤k
 | 0,b,h=>⟨fun i hi=>(by cases hi),ZB _⟩
 | k+1,b,h=>by
  unfold YT
  split
  ·exact ⟨fun i hi=>(by cases hi),TS _⟩
  split
  ·exact ⟨fun i hi=>by rw [I9] at hi;subst hi;exact Ik h,by show 1≤k+1;omega⟩
  have ih:=Il k (b.drop (Ze b).1.2) (by rw [RU];omega)
  dsimp only
  split
  ·exact ⟨fun i hi=>(by cases hi),TS _⟩
  ·refine ⟨fun i hi=>?_,by rw [List.length_cons];exact Nat.succ_le_succ ih.2⟩
   rcases KG.1 hi with rfl|hi
   ·exact Ik h
   ·exact ih.1 i hi
theorem S3 (b:List UInt8):(∀ i∈(Yy b).1,TP i)∧(Yy b).1.length≤8:=by
 unfold Yy
 split
 ·exact ⟨fun i hi=>(by cases hi),TS _⟩
 ·exact Il 8 b Zo
theorem NY {b:List UInt8} (h3:192≤at8 b 1∧at8 b 1≤223) (h:(X0 b).2=0):(X0 b).1 = .X6 (Yy b).1:=by
 unfold X0 at h ⊢
 by_cases h1:512<b.length
 ·rw [ZX h1] at h;cases h
 rw [Z6 h1] at h ⊢
 by_cases h2:b.length<2
 ·rw [ZX h2] at h;cases h
 rw [Z6 h2,ZX h3] at h ⊢
 by_cases h4:(Yy b).2≠0
 ·rw [ZX h4] at h;exact absurd h h4
 ·rw [Z6 h4]
theorem ML (R:Room) (p x:Int):(Y7 R p x).1.1.length≤18:=by
 unfold Y7
 split
 ·exact TS _
 ·exact PM _ _
theorem yK (e:Int):0≤Dg e∧Dg e≤1:=by unfold Dg;split <;> omega
theorem Rt (peer:Int):∀ (l:List Int) (R:Room),Inv R→WZ R→Inv (Zv peer l R).1.2∧WZ (Zv peer l R).1.2∧(Zv peer l R).1.1.length≤18*l.length∧0≤(Zv peer l R).2∧(Zv peer l R).2≤l.length
 | [],R,h,hs=>⟨h,hs,ZB _,Int.le_refl _,Int.le_refl _⟩
 | x :: l,R,h,hs=>by
  have ih:=Rt peer l (Y7 R peer x).1.2 (MV h peer x) (Oq hs peer x)
  have h1:=ML R peer x
  have h2:=yK (Y7 R peer x).2
  unfold Zv
  refine ⟨ih.1,ih.2.1,?_,?_,?_⟩
  ·show ((Y7 R peer x).1.1++_).length≤_
   rw [SP,List.length_cons];have:=ih.2.2.1;omega
  ·show 0≤Dg _+_;have:=ih.2.2.2.1;omega
  ·show Dg _+_≤((l.length+1:Nat):Int);have:=ih.2.2.2.2;omega
theorem KS {R:Room} (h:Inv R) (hs:WZ R) (peer:Int) {i:R6} (hi:TP i):Inv (Yr R peer i).1.2∧WZ (Yr R peer i).1.2∧(Yr R peer i).1.1.length≤3000∧0≤(Yr R peer i).2∧(Yr R peer i).2≤1000:=by
 unfold Yr
 split
 ·exact ⟨h,hs,TS _,by dsimp only;split <;> omega,by dsimp only;split <;> omega⟩
 split
 ·exact ⟨h,hs,TS _,by dsimp only;split <;> omega,by dsimp only;split <;> omega⟩
 split
 ·have:=Rt peer i.gone R h hs
  have hg:=hi.g
  exact ⟨this.1,this.2.1,Zo,this.2.2.2.1,Zo⟩
 ·exact ⟨h,hs,TS _,Int.le_refl _,by show (0:Int)≤1000;decide⟩
theorem Rz (peer:Int):∀ (l:List R6) (R:Room),Inv R→WZ R→(∀ i∈l,TP i)→Inv (ZG peer l R).1.2∧WZ (ZG peer l R).1.2∧(ZG peer l R).1.1.length≤3000*l.length∧0≤(ZG peer l R).2∧(ZG peer l R).2≤1000*l.length
 | [],R,h,hs,hi=>⟨h,hs,ZB _,Int.le_refl _,Int.le_refl _⟩
 | x :: l,R,h,hs,hi=>by
  have h1:=KS h hs peer (hi x (List.mem_cons_self ..))
  have ih:=Rz peer l (Yr R peer x).1.2 h1.1 h1.2.1 (fun i h=>hi i (List.mem_cons_of_mem _ h))
  unfold ZG
  refine ⟨ih.1,ih.2.1,?_,?_,?_⟩
  ·show ((Yr R peer x).1.1++_).length≤_
   rw [SP,List.length_cons];have:=ih.2.2.1;omega
  ·show 0≤(Yr R peer x).2+_;have:=ih.2.2.2.1;omega
  ·show (Yr R peer x).2+_≤((1000:Int)*((l.length+1:Nat):Int));have:=ih.2.2.2.2;omega
theorem Bb {R:Room} (h:Inv R) (hs:WZ R) (ep p:Int) (l:List UInt8):Inv (YZ R ep p l).1.2∧WZ (YZ R ep p l).1.2∧0≤(YZ R ep p l).1.1.unknown∧(YZ R ep p l).1.1.unknown≤8000∧ep≤(YZ R ep p l).2∧(YZ R ep p l).2≤ep+1:=by
 unfold YZ
 by_cases h1:(X0 l).2≠0
 ·rw [ZX h1];exact ⟨h,hs,by show (0:Int)≤0;decide,by show (0:Int)≤8000;decide,Int.le_refl _,by show ep≤ep+1;omega⟩
 rw [Z6 h1]
 by_cases h2:(!Zz R p)=true
 ·rw [ZX h2];exact ⟨h,hs,by show (0:Int)≤0;decide,by show (0:Int)≤8000;decide,Int.le_refl _,by show ep≤ep+1;omega⟩
 rw [Z6 h2]
 by_cases h3:192≤at8 l 1∧at8 l 1≤223
 ·rw [NY h3 Zo]
  have hk:=S3 l
  have:=Rz p (Yy l).1 R h hs hk.1
  exact ⟨this.1,this.2.1,this.2.2.2.1,by show (ZG p (Yy l).1 R).2≤8000;omega,by show ep≤ep+1;omega,Int.le_refl _⟩
 ·rcases sB:(X0 l).1 with _|⟨P,d⟩|fl
  ·exact ⟨h,hs,by show (0:Int)≤0;decide,by show (0:Int)≤8000;decide,by show ep≤ep+1;omega,Int.le_refl _⟩
  ·dsimp only
   refine ⟨h,hs,?_,?_,Int.le_refl _,Zo⟩
   ·unfold VS;split <;> (show (0:Int)≤0;decide)
   ·unfold VS;split <;> (show (0:Int)≤8000;decide)
  ·exfalso
   unfold X0 at sB
   rw [Z6 h3] at sB
   split at sB
   ·cases sB
   split at sB
   ·cases sB
   split at sB
   ·cases sB
   split at sB
   ·cases sB
   ·cases sB
end Go.Proofs.By
namespace Go.Proofs.By
open Go.Proofs.Rm (Room YE WB of Y7 Zz W9 ZH Inv WZ Pc RN L6 NM Be gone U2 VG)
theorem Iw (R:Room) (p x:Int):owned R.bare p x=owned R p x:=by
 unfold owned
 rw [L6]
 rfl
theorem Bh (R:Room) (p x:Int):Y7 R.bare p x=(((Y7 R p x).1.1,(Y7 R p x).1.2.bare),(Y7 R p x).2):=by
 have h1:Zz R.bare p=Zz R p:=rfl
 have h2:∀ n,(R.bare.src n).own=(R.src n).own:=fun _=>rfl
 unfold Y7
 rw [L6,h1,h2,NM]
 split <;> rfl
theorem LH (p:Int):∀ (l:List Int) (R:Room),Zv p l R.bare=(((Zv p l R).1.1,(Zv p l R).1.2.bare),(Zv p l R).2)
 | [],R=>rfl
 | x :: l,R=>by
  unfold Zv
  rw [Bh]
  dsimp only
  rw [LH p l]
theorem BH (R:Room) (p:Int) (i:R6):Yr R.bare p i=(((Yr R p i).1.1,(Yr R p i).1.2.bare),(Yr R p i).2):=by
 have h1:Ve R.bare p i.Ye=Ve R p i.Ye:=rfl
 unfold Yr
 rw [Iw,h1,LH]
 split
 ·rfl
 split
 ·rfl
 split <;> rfl
theorem LR (p:Int):∀ (l:List R6) (R:Room),ZG p l R.bare=(((ZG p l R).1.1,(ZG p l R).1.2.bare),(ZG p l R).2)
 | [],R=>rfl
 | x :: l,R=>by
  unfold ZG
  rw [BH]
  dsimp only
  rw [LR p l]
theorem BR (R:Room) (ep p:Int) (P:J2) (d:AJ):VS R.bare ep p P d=VS R ep p P d:=by
 unfold VS
 rw [Iw,L6]
theorem Gv (R:Room) (ep p:Int) (l:List UInt8):YZ R.bare ep p l=(((YZ R ep p l).1.1,(YZ R ep p l).1.2.bare),(YZ R ep p l).2):=by
 have h1:Zz R.bare p=Zz R p:=rfl
 unfold YZ
 rw [h1]
 split
 ·rfl
 split
 ·rfl
 cases (X0 l).1 with
 | none=>rfl
 | Ye P d=>dsimp only;rw [BR]
 | X6 fl=>dsimp only;rw [LR]
theorem wJ (R:Room) (ep:Int) (o:Rm.Op) (l:List UInt8) (sv QB:Value):(take R.bare ep o l QB).1.1=(take R ep o l sv).1.1∧(take R.bare ep o l QB).1.2.bare=(take R ep o l sv).1.2.bare∧(take R.bare ep o l QB).2=(take R ep o l sv).2:=by
 unfold take
 by_cases h:o.kind=1
 ·rw [ZX h,ZX h,Gv]
  exact ⟨rfl,rfl,rfl⟩
 ·rw [Z6 h,Z6 h]
  obtain ⟨h1,h2,h3⟩:=Be R o sv QB
  rw [h2]
  by_cases h4:(W9 R o sv).2≠0
  ·rw [ZX h4,ZX h4];exact ⟨rfl,rfl,rfl⟩
  ·rw [Z6 h4,Z6 h4]
   dsimp only
   rw [h1]
   exact ⟨rfl,h3,rfl⟩
theorem EF {R:Room} (h:Inv R) (hs:WZ R) (ep:Int) (o:Rm.Op) (l:List UInt8) (sv:Value):Inv (take R ep o l sv).1.2∧WZ (take R ep o l sv).1.2∧0≤(take R ep o l sv).1.1.unknown∧(take R ep o l sv).1.1.unknown≤8000∧ep≤(take R ep o l sv).2∧(take R ep o l sv).2≤ep+1:=by
 unfold take
 split
 ·exact Bb h hs ep o.peer l
 split
 ·exact ⟨h,hs,by show (0:Int)≤0;decide,by show (0:Int)≤8000;decide,Int.le_refl _,by show ep≤ep+1;omega⟩
 ·exact ⟨Pc h o sv,RN hs o sv,by show (0:Int)≤0;decide,by show (0:Int)≤8000;decide,by show ep≤ep+1;omega,Int.le_refl _⟩
theorem Aa (R:Room) (ep:Int) (o:Rm.Op) (l:List UInt8) (sv:Value):((take R ep o l sv).1.1.WH.kind=2∧(take R ep o l sv).1.1.WH.SQ=ep+1∧(take R ep o l sv).2=ep+1)∨((take R ep o l sv).1.1.WH.kind≠2∧(take R ep o l sv).2=ep∧((take R ep o l sv).1.1.WH.kind=1→(take R ep o l sv).1.1.WH.SQ=ep)):=by
 unfold take
 split
 ·unfold YZ
  split
  ·exact Wj ⟨by show (3:Int)≠2;decide,rfl,fun h=>absurd h (by show (3:Int)≠1;decide)⟩
  split
  ·exact Wj ⟨by show (4:Int)≠2;decide,rfl,fun h=>absurd h (by show (4:Int)≠1;decide)⟩
  cases (X0 l).1 with
  | none=>exact Wc ⟨rfl,rfl,rfl⟩
  | Ye P d=>
   dsimp only
   unfold VS
   split
   ·exact Wj ⟨by show (1:Int)≠2;decide,rfl,fun _=>rfl⟩
   ·exact Wj ⟨by show (5:Int)≠2;decide,rfl,fun h=>absurd h (by show (5:Int)≠1;decide)⟩
  | X6 fl=>exact Wc ⟨rfl,rfl,rfl⟩
 split
 ·exact Wj ⟨by show (6:Int)≠2;decide,rfl,fun h=>absurd h (by show (6:Int)≠1;decide)⟩
 ·exact Wc ⟨rfl,rfl,rfl⟩
def XB (L:List QM):Nat→Room × Int
 | 0=>(Rm.empty,0)
 | k+1=>match L[k]? with
  | none=>XB L k
  | some y=>((take (XB L k).1 (XB L k).2 y.x.o y.b (.slice none 0 0)).1.2.bare,(take (XB L k).1 (XB L k).2 y.x.o y.b (.slice none 0 0)).2)
def YH (L:List QM) (k:Nat):Taken:=match L[k]? with
 | none=>Vf
 | some y=>(take (XB L k).1 (XB L k).2 y.x.o y.b (.slice none 0 0)).1.1
theorem Ci {L:List QM} {k:Nat} {y:QM} {R:Room} {ep:Int} (hy:L[k]?=some y) (hR:R.bare=(XB L k).1) (he:ep=(XB L k).2) (sv:Value) :
  (take R ep y.x.o y.b sv).1.1=YH L k∧(take R ep y.x.o y.b sv).1.2.bare=(XB L (k+1)).1∧(take R ep y.x.o y.b sv).2=(XB L (k+1)).2:=by
 obtain ⟨h1,h2,h3⟩:=wJ R ep y.x.o y.b sv (.slice none 0 0)
 rw [hR,he] at h1 h2 h3
 have e1:YH L k=(take (XB L k).1 (XB L k).2 y.x.o y.b (.slice none 0 0)).1.1:=by unfold YH;rw [hy]
 have e2:XB L (k+1)=((take (XB L k).1 (XB L k).2 y.x.o y.b (.slice none 0 0)).1.2.bare,(take (XB L k).1 (XB L k).2 y.x.o y.b (.slice none 0 0)).2):=by
  conv=>lhs;unfold XB
  rw [hy]
 rw [e1,e2,he]
 exact ⟨h1.symm,h2.symm,h3.symm⟩
theorem F5 {L:List QM} {k:Nat} (hk:k<L.length):((YH L k).WH.kind=2∧(YH L k).WH.SQ=(XB L k).2+1∧(XB L (k+1)).2=(XB L k).2+1)∨((YH L k).WH.kind≠2∧(XB L (k+1)).2=(XB L k).2∧((YH L k).WH.kind=1→(YH L k).WH.SQ=(XB L k).2)):=by
 have hy:L[k]?=some L[k]:=VQ hk
 have e1:YH L k=(take (XB L k).1 (XB L k).2 L[k].x.o L[k].b (.slice none 0 0)).1.1:=by unfold YH;rw [hy]
 have e2:(XB L (k+1)).2=(take (XB L k).1 (XB L k).2 L[k].x.o L[k].b (.slice none 0 0)).2:=by
  conv=>lhs;unfold XB
  rw [hy]
 rw [e1,e2]
 exact Aa _ _ _ _ _
theorem K4 (L:List QM):∀ k,0≤(XB L k).2∧(XB L k).2≤k
 | 0=>⟨Int.le_refl _,Int.le_refl _⟩
 | k+1=>by
  have ih:=K4 L k
  by_cases hk:k<L.length
  ·rcases F5 hk with ⟨_,_,h⟩|⟨_,h,_⟩ <;> (rw [h];omega)
  ·have e2:XB L (k+1)=XB L k:=by
    conv=>lhs;unfold XB
    rw [List.getElem?_eq_none Zo]
   rw [e2];omega
structure XJ where
 peer:Int
 source:Int
 bgn:Int
 fin:Int
deriving DecidableEq
def UI:XJ:=⟨0,0,0,0⟩
def XY (p s at':Int) (ls:List XJ):Nat→List XJ
 | 0=>ls
 | k+1=>if (ls.getD k UI).peer=p∧(ls.getD k UI).source=s then ls.set k {ls.getD k UI with fin:=at'} else XY p s at' ls k
def Xc (n at':Int) (ls:List XJ) (t:YE):List XJ:=
 if t.kind=1 then ls++[⟨t.peer,t.source,at',n⟩]
 else if t.kind=2 then XY t.peer t.source at' ls ls.length
 else ls
theorem Fb (p s at':Int) (ls:List XJ):∀ k,(XY p s at' ls k).length=ls.length
 | 0=>rfl
 | k+1=>by
  unfold XY
  split
  ·rw [List.length_set]
  ·exact Fb p s at' ls k
theorem Eh (n at':Int) (ls:List XJ) (t:YE):(Xc n at' ls t).length≤ls.length+1:=by
 unfold Xc
 split
 ·rw [SP];exact ZB _
 split
 ·rw [Fb];omega
 ·omega
def Wk (n at':Int) (ls:List XJ) (ts:List YE):List XJ:=ts.foldl (Xc n at') ls
theorem Kq (n at':Int):∀ (ts:List YE) (ls:List XJ),(Wk n at' ls ts).length≤ls.length+ts.length
 | [],ls=>ZB _
 | t :: ts,ls=>by
  have h1:=Kq n at' ts (Xc n at' ls t)
  have h2:=Eh n at' ls t
  show (Wk n at' (Xc n at' ls t) ts).length≤_
  rw [List.length_cons]
  omega
def S_ (L:List QM) (n:Int):Nat→List XJ
 | 0=>[]
 | k+1=>Wk n k (S_ L n k) (YH L k).turns
def Vl (L:List QM) (k:Nat):List Gg:=(List.range k).map fun j=>(YH L j).WH
theorem A3 (L:List QM) (k:Nat):Vl L (k+1)=Vl L k++[(YH L k).WH]:=by unfold Vl;rw [Aq,ND];rfl
theorem MG (L:List QM) (k:Nat):(Vl L k).length=k:=by unfold Vl;rw [UM,List.length_range]
end Go.Proofs.By
