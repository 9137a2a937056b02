/- Part of a proof. -/
import Derived.Test.YtpdjhlcbcomdkaaGreatDoorF09
set_option linter.unusedVariables false
set_option linter.unusedSimpArgs false
set_option maxRecDepth 100000
set_option maxHeartbeats 16000000
open Go Go.Q Go.Qr
namespace Go.Proofs.Rm
open Go.RowKit Go.Proofs.Heap Go.Proofs.Mem
def Xx (b:Nat) (R:Room) (o:Op) (w:World) (e:Ending) (w':World):Prop:=
 ∃ v sv,e = .returned v∧YM w' v (turns R o sv).1∧Z4 w' b (turns R o sv).2∧Fr w (· = b) w w'
theorem T6 {b:Nat} {R R':Room} {o:Op} {w w':World} {v sv:Value} {l:List YE} (h:Hid (turns R o sv=(l,R'))) (h1:YM w' v l) (h2:Z4 w' b R') (h3:Fr w (· = b) w w'):Xx b R o w (.returned v) w':=
 ⟨v,sv,rfl,by rw [h.o];exact h1,by rw [h.o];exact h2,h3⟩
theorem T8 {b:Nat} {R:Room} {o:Op} {w w1 w':World} {v sv:Value} {x:List YE × Room} (h:Hid (turns R o sv=x)) (h1:YM w' v x.1) (h2:Z4 w' b x.2) (hw:Below w w w1) (h3:Fr w1 (· = b) w1 w'):Xx b R o w (.returned v) w':=
 ⟨v,sv,rfl,by rw [h.o];exact h1,by rw [h.o];exact h2,(Fr.Z9 _ hw).trans (h3.mono hw.size (fun _ _ h=>h))⟩
theorem Ov (x:Sub) (on:Bool):∀ j,j<3→T5 {x with ZR:=on} j=if j=1 then .bool on else T5 x j:=by
 intro j hj
 have:j=0∨j=1∨j=2:=by omega
 rcases this with rfl|rfl|rfl <;> rfl
theorem EE (x:Sub) (q:Int):∀ j,j<3→T5 {x with want:=q} j=if j=2 then .int .i64 q else T5 x j:=by
 intro j hj
 have:j=0∨j=1∨j=2:=by omega
 rcases this with rfl|rfl|rfl <;> rfl
section
variable (b:Nat) (R:Room) (p n q:Int) (nm:List UInt8) (ss:List Int) (sa ba:Option Addr) (sl sc bl bc:Nat) (w:World) (hR:Z4 w b R)
include hR
theorem Ag (hp:1≤p∧p<9) :
  Calls Tryz.prog 110 (Qf (some ⟨b,0,none⟩) (Qa 2 p n q (str nm) sa sl sc ba bl bc)) w (Xx b R ⟨2,p,n,q,nm,ss⟩ w):=by
 obtain ⟨p,rfl⟩:=Rn (show 0≤p by omega)
 have Mz:p<9:=by omega
 have hb:=hR.lt
 have c0:=hR.BS Mz
 have f0:=hR.YS p
 have HF:Hid (turns R ⟨2,p,n,q,nm,ss⟩ (.slice none 0 0)=([],R.setName p nm)):=rfl
 have MC:=Zh (hR.setName Mz nm)
 have U5:Hid (Fr w (· = b) w (w.setCell ⟨b,p,none⟩ (.string (str nm)))):=(Fr.refl _ _ _).setAt _ _
 clear hR
 go_enter Tryz.func110,Tryz.ntmps110
 go_wp2
 go_region
 go_wp2
 go_ret
 exact T6 HF (Row.nil _ _) qJ (by repeat (first|exact U5.o|refine Fr.drew ?_|refine Fr.alloc ?_ (by simp <;> omega) _))
theorem Cy (hp:1≤p∧p<9) :
  Calls Tryz.prog 110 (Qf (some ⟨b,0,none⟩) (Qa 3 p n q (str nm) sa sl sc ba bl bc)) w (Xx b R ⟨3,p,n,q,nm,ss⟩ w):=by
 obtain ⟨p,rfl⟩:=Rn (show 0≤p by omega)
 have Mz:p<9:=by omega
 have hb:=hR.lt
 have HF:Hid (turns R ⟨3,p,n,q,nm,ss⟩ (.slice none 0 0)=leave R p):=rfl
 have C:=Zh (fun (w1:World) (h:Below w w w1)=>vS b R p w1 (hR.below h) Mz)
 clear hR
 go_enter Tryz.func110,Tryz.ntmps110
 go_wp2_with (go_at_call 136;refine (C.o _ yE).mono ?_;rintro e w1 ⟨⟨tv,rfl,S0⟩,XE,Xm⟩)
 go_ret
 exact T8 HF S0 XE yE Xm
theorem JT (hn:1≤n∧n<9) :
  Calls Tryz.prog 110 (Qf (some ⟨b,0,none⟩) (Qa 5 p n q (str nm) sa sl sc ba bl bc)) w (Xx b R ⟨5,p,n,q,nm,ss⟩ w):=by
 obtain ⟨n,rfl⟩:=Rn (show 0≤n by omega)
 have Ju:n<9:=by omega
 have hb:=hR.lt
 have HF:Hid (turns R ⟨5,p,n,q,nm,ss⟩ (.slice none 0 0)=gone R n):=rfl
 have C:=Zh (fun (w1:World) (h:Below w w w1)=>H7 b R n w1 (hR.below h) Ju)
 clear hR
 go_enter Tryz.func110,Tryz.ntmps110
 go_wp2_with (go_at_call 137;refine (C.o _ yE).mono ?_;rintro e w1 ⟨⟨tv,rfl,S0⟩,XE,Xm⟩)
 go_ret
 exact T8 HF S0 XE yE Xm
theorem JS (hp:1≤p∧p<9) (hn:1≤n∧n<9) (hq:0≤q∧q<(R.src n.toNat).ss.length) :
  Calls Tryz.prog 110 (Qf (some ⟨b,0,none⟩) (Qa 6 p n q (str nm) sa sl sc ba bl bc)) w (Xx b R ⟨6,p,n,q,nm,ss⟩ w):=by
 have hb:=hR.lt
 have HF:Hid (turns R ⟨6,p,n,q,nm,ss⟩ (.slice none 0 0)=begin R ⟨6,p,n,q,nm,ss⟩):=rfl
 have C:=Zh (fun (w1:World) (h:Below w w w1)=>KH b R ⟨6,p,n,q,nm,ss⟩ sa ba sl sc bl bc w1 (hR.below h) hn hp hq)
 clear hR
 go_enter Tryz.func110,Tryz.ntmps110
 go_wp2_with (go_at_call 138;refine (C.o _ yE).mono ?_;rintro e w1 ⟨⟨tv,rfl,S0⟩,XE,Xm⟩)
 go_ret
 exact T8 HF S0 XE yE Xm
theorem Ah (hn:1≤n∧n<9) :
  Calls Tryz.prog 110 (Qf (some ⟨b,0,none⟩) (Qa 8 p n q (str nm) sa sl sc ba bl bc)) w (Xx b R ⟨8,p,n,q,nm,ss⟩ w):=by
 obtain ⟨n,rfl⟩:=Rn (show 0≤n by omega)
 have Ju:n<9:=by omega
 have hb:=hR.lt
 have HF:Hid (turns R ⟨8,p,n,q,nm,ss⟩ (.slice none 0 0)=mute R n true):=rfl
 have C:=Zh (fun (w1:World) (h:Below w w w1)=>o_ b R n w1 (hR.below h) Ju)
 exact kH
theorem EJ (hn:1≤n∧n<9) (hw:∀ p,p<9→(R.sub n.toNat p).there=true→0≤(R.sub n.toNat p).want∧(R.sub n.toNat p).want<(R.src n.toNat).ss.length) :
  Calls Tryz.prog 110 (Qf (some ⟨b,0,none⟩) (Qa 9 p n q (str nm) sa sl sc ba bl bc)) w (Xx b R ⟨9,p,n,q,nm,ss⟩ w):=by
 obtain ⟨n,rfl⟩:=Rn (show 0≤n by omega)
 have Ju:n<9:=by omega
 have hb:=hR.lt
 have HF:Hid (turns R ⟨9,p,n,q,nm,ss⟩ (.slice none 0 0)=mute R n false):=rfl
 have C:=Zh (fun (w1:World) (h:Below w w w1)=>sZ b R n w1 (hR.below h) Ju hw)
 exact kH
theorem Ms (hp:1≤p∧p<9) (hn:1≤n∧n<9) :
  Calls Tryz.prog 110 (Qf (some ⟨b,0,none⟩) (Qa 7 p n q (str nm) sa sl sc ba bl bc)) w (Xx b R ⟨7,p,n,q,nm,ss⟩ w):=by
 obtain ⟨p,rfl⟩:=Rn (show 0≤p by omega)
 have Mz:p<9:=by omega
 obtain ⟨n,rfl⟩:=Rn (show 0≤n by omega)
 have Ju:n<9:=by omega
 have hb:=hR.lt
 have HF:Hid (turns R ⟨7,p,n,q,nm,ss⟩ (.slice none 0 0)=([⟨2,p,n,0,0⟩],R.ZZ n p VJ)):=rfl
 have C:=Zh (fun (w1:World) (h:Below w w w1)=>D5 b R p n w1 (hR.below h) Ju Mz)
 clear hR
 go_enter Tryz.func110,Tryz.ntmps110
 go_wp2_with (go_at_call 139;refine (C.o _ yE).mono ?_;rintro e w1 ⟨rfl,XE,Xm⟩;have Yg:=Zh XE;have U5:=Zh Xm;clear XE Xm)
 have hz:=U5.o.size
 go_ret
 refine T8 HF (YL _ _ 1 _ ([⟨2,p,n,0,0⟩].flatMap Z_) Zd Zi) (Yg.o.alloc _) yE (U5.o.alloc hz _)
theorem Cz (hp:1≤p∧p<9) (hn:1≤n∧n<9) :
  Calls Tryz.prog 110 (Qf (some ⟨b,0,none⟩) (Qa 10 p n q (str nm) sa sl sc ba bl bc)) w (Xx b R ⟨10,p,n,q,nm,ss⟩ w):=by
 obtain ⟨p,rfl⟩:=Rn (show 0≤p by omega)
 have Mz:p<9:=by omega
 obtain ⟨n,rfl⟩:=Rn (show 0≤n by omega)
 have Ju:n<9:=by omega
 have hb:=hR.lt
 obtain ⟨c0,c1,c2⟩:=hR.IP Ju Mz
 have f1:=hR.YS (54+n*27+p*3+1)
 have HF:Hid (turns R ⟨10,p,n,q,nm,ss⟩ (.slice none 0 0)=([⟨4,p,n,0,0⟩],R.ZZ n p {R.sub n p with ZR:=true})):=rfl
 have MC:=Zh (hR.Tq Ju Mz (i:=1) Zo (x:={R.sub n p with ZR:=true}) (v:= .bool true) (Ov _ _))
 have U5:Hid (Fr w (· = b) w (w.setCell ⟨b,54+n*27+p*3+1,none⟩ (.bool true))):=(Fr.refl _ _ _).setAt _ _
 clear hR
 go_enter Tryz.func110,Tryz.ntmps110
 go_wp2
 go_region
 go_wp2
 go_ret
 exact T6 HF (by first|exact Row.drew (YL _ _ 1 _ ([⟨4,p,n,0,0⟩].flatMap Z_) Zd Zi)|exact YL _ _ 1 _ ([⟨4,p,n,0,0⟩].flatMap Z_) Zd (by simp [size_setCell])) qJ (by repeat (first|exact U5.o|refine Fr.drew ?_|refine Fr.alloc ?_ (by simp <;> omega) _))
end
theorem Zy {w w':World} {a:Addr} {v:Value} (hb:Below w w w') (h:w.cell? a=some v):w'.cell? a=some v:=(hb.cell (World.block_lt_of_cell? w _ h)).trans h
theorem O6 {w:World} {a:Addr} {v:Value} (h:w.cell? a=some v) (o:Obj):(w.alloc o).cell? a=some v:=Zy (Z' _ _) h
theorem Wd {w:World} {a:Addr} {v:Value} (h:w.cell? a=some v):w.drew.cell? a=some v:=h
theorem J5 {w:World} {a:Addr} {v:Value} (h:w.drew.drew.cell? a=some v) (o:Obj):(w.alloc o).drew.drew.cell? a=some v:=O6 (w:=w) h o
theorem J6 {w:World} {a:Addr} {v:Value} (h:w.drew.drew.drew.cell? a=some v) (o:Obj):(w.alloc o).drew.drew.drew.cell? a=some v:=O6 (w:=w) h o
theorem cell_grown {w w':World} {row:Option Nat} {a:Addr} {v:Value} (hg:w.grownBy w' row) (h:w.cell? a=some v) (Xh:∀ k,row=some k→a.block<k):w'.cell? a=some v:=
 (World.cell?_of_block (hg.block a.block (World.block_lt_of_cell? w _ h) (fun e=>by have:=Xh _ e.symm;omega))).trans h
theorem U0 {W:World} {m:Nat} (hm:W.heap.size=m) (A:Obj) (cs:Array Value) (e:TypeId) (j:Nat):((W.alloc A).alloc (.cells cs e)).cell? ⟨m+1,j,none⟩=cs[j]?:=by
 subst hm
 have:=(Wm W A (.cells cs e)).2
 simp only [World.cell?,this]
 rfl
theorem UZ {W:World} {m:Nat} (hm:W.heap.size=m) (B:Obj) (cs:Array Value) (e:TypeId) (j:Nat):((W.alloc (.cells cs e)).alloc B).cell? ⟨m,j,none⟩=cs[j]?:=by
 subst hm
 have:=(Wm W (.cells cs e) B).1
 simp only [World.cell?,this]
 rfl
structure TX (b:Nat) (R1:Room) (w w':World):Prop where
 room:Z4 w' b R1
 fr:Fr w (· = b) w w'
 size:w.heap.size+1<w'.heap.size
theorem TX.drew {b:Nat} {R1:Room} {w w':World} (h:TX b R1 w w'):TX b R1 w w'.drew:=⟨h.room.drew,h.fr.drew,h.size⟩
theorem TX.alloc {b:Nat} {R1:Room} {w w':World} (h:TX b R1 w w') (o:Obj):TX b R1 w (w'.alloc o):=⟨h.room.alloc o,h.fr.alloc (by have:=h.size;omega) o,by have:=h.size;simp;omega⟩
theorem TX.below {b:Nat} {R1:Room} {w w1 w':World} (h:TX b R1 w w1) (hb:Below w1 w1 w'):TX b R1 w w':=
 ⟨h.room.below hb,h.fr.trans ((Fr.Z9 _ hb).mono (by have:=h.size;omega) (fun _ _ h=>h)),by have:=h.size;have:=hb.size;omega⟩
theorem TX.qZ {b:Nat} {R1:Room} {w w':World} (h:TX b R1 w w'.drew.drew) (o:Obj):TX b R1 w (w'.alloc o).drew.drew:=
 h.below ⟨rfl,rfl,rfl,by show w'.heap.size≤(w'.alloc o).heap.size;simp,fun k hk=>Below.heap_alloc _ _ _ hk⟩
theorem TX.q9 {b:Nat} {R1:Room} {w w':World} (h:TX b R1 w w'.drew.drew.drew) (o:Obj):TX b R1 w (w'.alloc o).drew.drew.drew:=
 h.below ⟨rfl,rfl,rfl,by show w'.heap.size≤(w'.alloc o).heap.size;simp,fun k hk=>Below.heap_alloc _ _ _ hk⟩
theorem TX.grown {b:Nat} {R1:Room} {w w1 w':World} (h:TX b R1 w w1) (hb:b<w.heap.size) {base:Nat} {v:Value} {m:Nat} {ys:List Value} (ho:w1.ownsRow base 158 5 v m ys) (hg:w1.grownBy w' v.ownBlock) (hB:w.heap.size≤base):TX b R1 w w':=
 ⟨Z4.grown h.room ho hg Zo Zd,h.fr.grown hg (by have:=h.size;omega) (fun k hk=>Rh hB (Yw ho k hk)),by have:=h.size;have:=hg.size;omega⟩
theorem NT (w:World) (e:TypeId) (size n m base:Nat) (xs:List Value) (hl:xs.length=n*size) (hn:n≤maxLen) (hm:m=w.heap.size) (hB:base≤m):(w.alloc (.cells xs.toArray e)).ownsRow base e size (.slice (some ⟨m,0,none⟩) n n) n xs:=by
 exact az
theorem TX.Bk {b:Nat} {R1:Room} {w w1 w':World} (h:TX b R1 w w1) (hb:b<w.heap.size) {v:Value} {m:Nat} {ys:List Value} (ho:w1.ownsRow (w.heap.size+2) 158 5 v m ys) (hg:Hid (w1.grownBy w' v.ownBlock)) :
  TX b R1 w w'∧∀ a u,a.block≤w.heap.size+1→w1.cell? a=some u→w'.cell? a=some u:=
 ⟨h.grown hb ho hg.o Zo,fun a u ha hu=>cell_grown hg.o hu (fun k hk=>by have:=Yw ho k hk;omega)⟩
end Go.Proofs.Rm
namespace Go.Proofs.Rm
open Go.RowKit Go.Proofs.Heap Go.Proofs.Mem
theorem PE {w:World} {b m i j:Nat} {u v:Value} (hb:b<m) (h:w.cell? ⟨m,j,none⟩=some v):(w.setCell ⟨b,i,none⟩ u).cell? ⟨m,j,none⟩=some v:=by
 rw [World.cell?_setCell_other _ _ _ _ (by intro e;injection e;omega)];exact h
theorem vd {w:World} {b m j i0 i1 i2 i3 i4:Nat} {u0 u1 u2 u3 u4 v:Value} (hb:b<m) (h:w.cell? ⟨m,j,none⟩=some v):(((((w.setCell ⟨b,i0,none⟩ u0).setCell ⟨b,i1,none⟩ u1).setCell ⟨b,i2,none⟩ u2).setCell ⟨b,i3,none⟩ u3).setCell ⟨b,i4,none⟩ u4).cell? ⟨m,j,none⟩=some v:=
 PE hb (PE hb (PE hb (PE hb (PE hb h))))
theorem wH {w:World} {b m i0 i1 i2 i3 i4:Nat} {u0 u1 u2 u3 u4:Value} (h:m<w.heap.size):m<(((((w.setCell ⟨b,i0,none⟩ u0).setCell ⟨b,i1,none⟩ u1).setCell ⟨b,i2,none⟩ u2).setCell ⟨b,i3,none⟩ u3).setCell ⟨b,i4,none⟩ u4).heap.size:=by
 simpa [size_setCell] using h
section
variable (b:Nat) (R:Room) (p n q:Int) (nm:List UInt8) (ss:List Int) (sa ba:Option Addr) (sl sc bl bc:Nat) (w:World) (hR:Z4 w b R)
include hR
theorem G7 (hp:1≤p∧p<9) (hn:1≤n∧n<9) (Z7:Yf w (.slice sa sl sc) ss.length (Zb ss)) (hl:ss.length≤1000000) :
  Calls Tryz.prog 110 (Qf (some ⟨b,0,none⟩) (Qa 4 p n q (str nm) sa sl sc ba bl bc)) w (Xx b R ⟨4,p,n,q,nm,ss⟩ w):=by
 obtain ⟨p,rfl⟩:=Rn (show 0≤p by omega)
 have Mz:p<9:=by omega
 obtain ⟨n,rfl⟩:=Rn (show 0≤n by omega)
 have Ju:n<9:=by omega
 have hb:=hR.lt
 have Tf:Hid (∀ w1,Below w w w1→Z4 w1 b R):=fun w1 h=>hR.below h
 have ME:Hid (sl=ss.length):=by
  obtain ⟨a',c',e,_⟩:=Z7
  injection e
 have HUF:Hid (∀ w1,Z4 w1 b R→∀ j,w1.frozen? ⟨b,j,none⟩=false):=fun w1 h j=>h.YS j
 have C:=Zh (fun (w1:World) (h:Below w w w1)=>EO (.slice sa sl sc) ss w1 (Z7.below h) hl)
 have TK:∀ A B:Obj,Below w w ((w.alloc A).alloc B).drew:=fun A B=>(((YG _ _).alloc (ZB _) A).alloc Zi B).drew
 clear hR Z7 hl
 go_enter Tryz.func110,Tryz.ntmps110
 go_wp2
 go_region_held3 (fun w'=>w'.cell? ⟨w,1,none⟩=some (.int .i64 p)∧w'.cell? ⟨w,2,none⟩=some (.int .i64 n)∧w'.cell? ⟨w,5,none⟩=some (.slice sa sl sc)∧Fr w (· = b) w w'∧w.heap.size+1<w'.heap.size) (first|(refine ⟨?_,?_,?_,?_,?_⟩ <;> first|with_reducible assumption|(with_reducible refine Fr.drew ?_;with_reducible assumption)|(with_reducible refine Fr.Z9 _ ?_;with_reducible apply TK)|((with_reducible refine Fr.setAt ?_ _ _);(repeat (with_reducible refine Fr.setAt ?_ _ _));with_reducible assumption)|(with_reducible refine vd hb ?_;with_reducible assumption)|(with_reducible refine wH ?_;with_reducible assumption)|go_keep)|go_keep) (first|(go_at_call 112;go_split_ands;refine Calls.mono (C.o _ (TK _ _)) ?_;rintro e w2 ⟨⟨cv,rfl,fe⟩,Y0⟩;have YF:=Below.trans (TK _ _) (Y0.mono (lu (Nat.lt_of_succ_lt Xo)));have SX:=Fr.Z9 (· = b) YF;have vJ:=Px Xo Y0.size;obtain ⟨ca,cc,hce,hcx⟩:=id fe;clear hcx;subst hce;have HCR:=Zh fe;clear fe;obtain ⟨s0,s1,s2,s3,s4⟩:=(Tf.o w2 YF).Nw Ju;have f0:=HUF.o w2 (Tf.o w2 YF) (9+n*5);have f1:=HUF.o w2 (Tf.o w2 YF) (9+n*5+1);have f2:=HUF.o w2 (Tf.o w2 YF) (9+n*5+2);have f3:=HUF.o w2 (Tf.o w2 YF) (9+n*5+3);have f4:=HUF.o w2 (Tf.o w2 YF) (9+n*5+4);have k1:=Zy (a:=⟨w,1,none⟩) Y0 Xo;have k2:=Zy (a:=⟨w,2,none⟩) Y0 Xo;have k5:=Zy (a:=⟨w,5,none⟩) Y0 Xo))
 go_wp2
 go_ret
 have HF:Hid (turns R ⟨4,p,n,q,nm,ss⟩ (.slice ca ss.length cc)=([],R.Zt n ⟨true,n,p,.slice ca ss.length cc,ss,false⟩)):=rfl
 exact T6 HF (Row.nil _ _) ((Tf.o w2 YF).Zt Ju ⟨true,n,p,.slice ca ss.length cc,ss,false⟩ HCR.o) (((((SX.setAt _ _).setAt _ _).setAt _ _).setAt _ _).setAt _ _)
end
section
variable (b:Nat) (R:Room) (p n q:Int) (nm:List UInt8) (ss:List Int) (sa ba:Option Addr) (sl sc bl bc:Nat) (w:World) (hR:Z4 w b R)
include hR
theorem EH (hp:1≤p∧p<9) (hn:1≤n∧n<9) (hw:0≤(R.sub n.toNat p.toNat).want∧(R.sub n.toNat p.toNat).want<(R.src n.toNat).ss.length) :
  Calls Tryz.prog 110 (Qf (some ⟨b,0,none⟩) (Qa 11 p n q (str nm) sa sl sc ba bl bc)) w (Xx b R ⟨11,p,n,q,nm,ss⟩ w):=by
 obtain ⟨p,rfl⟩:=Rn (show 0≤p by omega)
 have Mz:p<9:=by omega
 obtain ⟨n,rfl⟩:=Rn (show 0≤n by omega)
 have Ju:n<9:=by omega
 have hb:=hR.lt
 obtain ⟨c0,c1,c2⟩:=hR.IP Ju Mz
 have fz:=hR.YS (54+n*27+p*3+1)
 have HF:Hid (turns R ⟨11,p,n,q,nm,ss⟩ (.slice none 0 0)=(⟨5,p,n,0,0⟩ :: waits (R.ZZ n p {R.sub n p with ZR:=false}) p n,R.ZZ n p {R.sub n p with ZR:=false})):=rfl
 have MC:=Zh (hR.Tq Ju Mz (i:=1) Zo (x:={R.sub n p with ZR:=false}) (v:= .bool false) (Ov _ _))
 have U5:Hid (Fr w (· = b) w (w.setCell ⟨b,54+n*27+p*3+1,none⟩ (.bool false))):=(Fr.refl _ _ _).setAt _ _
 have CW:Hid (∀ w1,Z4 w1 b (R.ZZ n p {R.sub n p with ZR:=false})→Calls Tryz.prog 141 (Qs (some ⟨b,0,none⟩) p n) w1 fun e w'=>(∃ v,e = .returned v∧YM w' v (waits (R.ZZ n p {R.sub n p with ZR:=false}) p n))∧Below w1 w1 w'):=
  fun w1 h=>La b _ p n w1 h Ju Mz (by rw [WM];exact hw)
 have qB:(waits (R.ZZ n p {R.sub n p with ZR:=false}) p n).length≤1:=by unfold waits;split <;> simp
 clear hR hw
 have HTX:Hid (∀ B1 B2:Obj,TX b (R.ZZ n p {R.sub n p with ZR:=false}) w (((w.setCell ⟨b,54+n*27+p*3+1,none⟩ (.bool false)).alloc B1).alloc B2).drew):=fun B1 B2=>⟨((MC.o.alloc _).alloc _).drew,((U5.o.alloc Zi _).alloc Zi _).drew,by simp⟩
 generalize waits (R.ZZ n p {R.sub n p with ZR:=false}) p n=W at *
 generalize R.ZZ n p {R.sub n p with ZR:=false}=R1 at *
 go_enter Tryz.func110,Tryz.ntmps110
 go_wp2
 go_region
 go_wp2
 have htx:=HTX.o
 go_region_held3 (fun w'=>w'.cell? ⟨w.heap.size+1,0,none⟩=some (.int .i64 5)∧w'.cell? ⟨w.heap.size+1,1,none⟩=some (.int .i64 p)∧w'.cell? ⟨w.heap.size+1,2,none⟩=some (.int .i64 n)∧w'.cell? ⟨w.heap.size+1,3,none⟩=some (.int .i64 0)∧w'.cell? ⟨w.heap.size+1,4,none⟩=some (.int .u32 0)∧w'.cell? ⟨w,1,none⟩=some (.int .i64 p)∧w'.cell? ⟨w,2,none⟩=some (.int .i64 n)∧TX b R1 w w') ((go_split_ands;((repeat' apply And.intro) <;> first|with_reducible assumption|((with_reducible apply Wd);with_reducible assumption)|(with_reducible apply TX.drew;with_reducible assumption)|(with_reducible apply TX.drew;with_reducible apply htx)|(with_reducible apply O6;with_reducible assumption)|(with_reducible apply J5;with_reducible assumption)|(with_reducible apply J6;with_reducible assumption)|(with_reducible apply TX.alloc;with_reducible assumption)|(with_reducible apply TX.qZ;with_reducible assumption)|(with_reducible apply TX.q9;with_reducible assumption)|((with_reducible apply Wd);(with_reducible apply Wd);(with_reducible refine (U0 (size_setCell _ _ _) _ _ _ _).trans ?_);rfl)|((with_reducible apply Wd);(with_reducible apply Wd);(with_reducible refine (UZ (size_setCell _ _ _) _ _ _ _).trans ?_);rfl)|go_keep))) (first|(go_at_call 141;go_split_ands;refine Calls.mono (CW.o _ (TX.room Xo)) ?_;rintro e w2 ⟨⟨tv,rfl,S0⟩,Y0⟩;have DD:=Zh S0;clear S0;have k0:=Zy (a:=⟨w.heap.size+1,0,none⟩) Y0 Xo;have k1:=Zy (a:=⟨w.heap.size+1,1,none⟩) Y0 Xo;have k2:=Zy (a:=⟨w.heap.size+1,2,none⟩) Y0 Xo;have k3:=Zy (a:=⟨w.heap.size+1,3,none⟩) Y0 Xo;have k4:=Zy (a:=⟨w.heap.size+1,4,none⟩) Y0 Xo;have k5:=Zy (a:=⟨w,1,none⟩) Y0 Xo;have k6:=Zy (a:=⟨w,2,none⟩) Y0 Xo;have dV:=TX.below Xo Y0)|(go_split_ands;refine Zw Zr (.tmp 105) (.tmp 111) 98 Zr (w.heap.size+2) XU _ 1 ([YE.mk 5 p n 0 0].flatMap Z_) Zr ?_ _ W.length (W.flatMap Z_) Zr ?_ (Wf _) (Yk _) Zo Zo ?_ ?_;(first|exact NT _ _ 5 1 _ _ ([YE.mk 5 p n 0 0].flatMap Z_) rfl Zd rfl (by have:=dV.size;omega)|(exact ZF (by repeat (first|exact RF _ _ 5 1 _ ([YE.mk 5 p n 0 0].flatMap Z_) rfl Zd Zi|refine XH ?_)) Y0));(first|exact DD.o|exact DD.o.below (Z' _ _));(have hs:=TX.size Xo;omega);intro v' w3 HO HG;obtain ⟨dW,Bn⟩:=TX.Bk Xo hb (by first|exact NT _ _ 5 1 _ _ ([YE.mk 5 p n 0 0].flatMap Z_) rfl Zd rfl (by have:=dV.size;omega)|(exact ZF (by repeat (first|exact RF _ _ 5 1 _ ([YE.mk 5 p n 0 0].flatMap Z_) rfl Zd Zi|refine XH ?_)) Y0)) HG;have g0:=Bn ⟨w.heap.size+1,0,none⟩ _ Zi Xo;have g1:=Bn ⟨w.heap.size+1,1,none⟩ _ Zi Xo;have g2:=Bn ⟨w.heap.size+1,2,none⟩ _ Zi Xo;have g3:=Bn ⟨w.heap.size+1,3,none⟩ _ Zi Xo;have g4:=Bn ⟨w.heap.size+1,4,none⟩ _ Zi Xo;have g5:=Bn ⟨w,1,none⟩ _ Zi Xo;have g6:=Bn ⟨w,2,none⟩ _ Zi Xo;clear Bn))
 all_goals
  go_wp2
  go_ret
  have Z7:=Row.ZV HO.o
  rw [Nat.add_comm] at Z7
  exact T6 HF Z7 dW.room dW.fr
end
end Go.Proofs.Rm
namespace Go.Proofs.Rm
open Go.RowKit Go.Proofs.Heap Go.Proofs.Mem
section
variable (b:Nat) (R:Room) (p n q:Int) (nm:List UInt8) (ss:List Int) (sa ba:Option Addr) (sl sc bl bc:Nat) (w:World) (hR:Z4 w b R)
include hR
theorem EI (hp:1≤p∧p<9) (hn:1≤n∧n<9) (hw:0≤q∧q<(R.src n.toNat).ss.length) :
  Calls Tryz.prog 110 (Qf (some ⟨b,0,none⟩) (Qa 12 p n q (str nm) sa sl sc ba bl bc)) w (Xx b R ⟨12,p,n,q,nm,ss⟩ w):=by
 obtain ⟨p,rfl⟩:=Rn (show 0≤p by omega)
 have Mz:p<9:=by omega
 obtain ⟨n,rfl⟩:=Rn (show 0≤n by omega)
 have Ju:n<9:=by omega
 have hb:=hR.lt
 obtain ⟨c0,c1,c2⟩:=hR.IP Ju Mz
 have fz:=hR.YS (54+n*27+p*3+2)
 have HF:Hid (turns R ⟨12,p,n,q,nm,ss⟩ (.slice none 0 0)=(⟨8,p,n,q,0⟩ :: waits (R.ZZ n p {R.sub n p with want:=q}) p n,R.ZZ n p {R.sub n p with want:=q})):=rfl
 have MC:=Zh (hR.Tq Ju Mz (i:=2) Zo (x:={R.sub n p with want:=q}) (v:= .int .i64 q) (EE _ _))
 have U5:Hid (Fr w (· = b) w (w.setCell ⟨b,54+n*27+p*3+2,none⟩ (.int .i64 q))):=(Fr.refl _ _ _).setAt _ _
 have CW:Hid (∀ w1,Z4 w1 b (R.ZZ n p {R.sub n p with want:=q})→Calls Tryz.prog 141 (Qs (some ⟨b,0,none⟩) p n) w1 fun e w'=>(∃ v,e = .returned v∧YM w' v (waits (R.ZZ n p {R.sub n p with want:=q}) p n))∧Below w1 w1 w'):=
  fun w1 h=>La b _ p n w1 h Ju Mz (by rw [WM];exact hw)
 have qB:(waits (R.ZZ n p {R.sub n p with want:=q}) p n).length≤1:=by unfold waits;split <;> simp
 clear hR hw
 have HTX:Hid (∀ B1 B2:Obj,TX b (R.ZZ n p {R.sub n p with want:=q}) w (((w.setCell ⟨b,54+n*27+p*3+2,none⟩ (.int .i64 q)).alloc B1).alloc B2).drew.drew):=fun B1 B2=>⟨((MC.o.alloc _).alloc _).drew.drew,((U5.o.alloc Zi _).alloc Zi _).drew.drew,by simp⟩
 generalize waits (R.ZZ n p {R.sub n p with want:=q}) p n=W at *
 generalize R.ZZ n p {R.sub n p with want:=q}=R1 at *
 go_enter Tryz.func110,Tryz.ntmps110
 go_wp2
 go_region
 go_wp2
 go_region
 go_wp2
 have htx:=HTX.o
 go_region_held3 (fun w'=>w'.cell? ⟨w.heap.size+1,0,none⟩=some (.int .i64 8)∧w'.cell? ⟨w.heap.size+1,1,none⟩=some (.int .i64 p)∧w'.cell? ⟨w.heap.size+1,2,none⟩=some (.int .i64 n)∧w'.cell? ⟨w.heap.size+1,3,none⟩=some (.int .i64 q)∧w'.cell? ⟨w.heap.size+1,4,none⟩=some (.int .u32 0)∧w'.cell? ⟨w,1,none⟩=some (.int .i64 p)∧w'.cell? ⟨w,2,none⟩=some (.int .i64 n)∧TX b R1 w w') ((go_split_ands;((repeat' apply And.intro) <;> first|with_reducible assumption|((with_reducible apply Wd);with_reducible assumption)|(with_reducible apply TX.drew;with_reducible assumption)|(with_reducible apply TX.drew;with_reducible apply htx)|(with_reducible apply O6;with_reducible assumption)|(with_reducible apply J5;with_reducible assumption)|(with_reducible apply J6;with_reducible assumption)|(with_reducible apply TX.alloc;with_reducible assumption)|(with_reducible apply TX.qZ;with_reducible assumption)|(with_reducible apply TX.q9;with_reducible assumption)|((with_reducible apply Wd);(with_reducible apply Wd);(with_reducible apply Wd);(with_reducible refine (U0 (size_setCell _ _ _) _ _ _ _).trans ?_);rfl)|((with_reducible apply Wd);(with_reducible apply Wd);(with_reducible apply Wd);(with_reducible refine (UZ (size_setCell _ _ _) _ _ _ _).trans ?_);rfl)|go_keep))) (first|(go_at_call 141;go_split_ands;refine Calls.mono (CW.o _ (TX.room Xo)) ?_;rintro e w2 ⟨⟨tv,rfl,S0⟩,Y0⟩;have DD:=Zh S0;clear S0;have k0:=Zy (a:=⟨w.heap.size+1,0,none⟩) Y0 Xo;have k1:=Zy (a:=⟨w.heap.size+1,1,none⟩) Y0 Xo;have k2:=Zy (a:=⟨w.heap.size+1,2,none⟩) Y0 Xo;have k3:=Zy (a:=⟨w.heap.size+1,3,none⟩) Y0 Xo;have k4:=Zy (a:=⟨w.heap.size+1,4,none⟩) Y0 Xo;have k5:=Zy (a:=⟨w,1,none⟩) Y0 Xo;have k6:=Zy (a:=⟨w,2,none⟩) Y0 Xo;have dV:=TX.below Xo Y0)|(go_split_ands;refine Zw Zr (.tmp 132) (.tmp 138) 98 Zr (w.heap.size+2) XU _ 1 ([YE.mk 8 p n q 0].flatMap Z_) Zr ?_ _ W.length (W.flatMap Z_) Zr ?_ (Wf _) (Yk _) Zo Zo ?_ ?_;(first|exact NT _ _ 5 1 _ _ ([YE.mk 8 p n q 0].flatMap Z_) rfl Zd rfl (by have:=dV.size;omega)|(exact ZF (by repeat (first|exact RF _ _ 5 1 _ ([YE.mk 8 p n q 0].flatMap Z_) rfl Zd Zi|refine XH ?_)) Y0));(first|exact DD.o|exact DD.o.below (Z' _ _));(have hs:=TX.size Xo;omega);intro v' w3 HO HG;obtain ⟨dW,Bn⟩:=TX.Bk Xo hb (by first|exact NT _ _ 5 1 _ _ ([YE.mk 8 p n q 0].flatMap Z_) rfl Zd rfl (by have:=dV.size;omega)|(exact ZF (by repeat (first|exact RF _ _ 5 1 _ ([YE.mk 8 p n q 0].flatMap Z_) rfl Zd Zi|refine XH ?_)) Y0)) HG;have g0:=Bn ⟨w.heap.size+1,0,none⟩ _ Zi Xo;have g1:=Bn ⟨w.heap.size+1,1,none⟩ _ Zi Xo;have g2:=Bn ⟨w.heap.size+1,2,none⟩ _ Zi Xo;have g3:=Bn ⟨w.heap.size+1,3,none⟩ _ Zi Xo;have g4:=Bn ⟨w.heap.size+1,4,none⟩ _ Zi Xo;have g5:=Bn ⟨w,1,none⟩ _ Zi Xo;have g6:=Bn ⟨w,2,none⟩ _ Zi Xo;clear Bn))
 all_goals
  go_wp2
  go_ret
  have Z7:=Row.ZV HO.o
  rw [Nat.add_comm] at Z7
  exact T6 HF Z7 dW.room dW.fr
end
open Go.Proofs.N_ (may key Xe)
theorem wL (b:Nat) (R:Room) (o:Op) (sa ba:Option Addr) (sc bl bc:Nat) (w:World) (hR:Z4 w b R) (hI:Inv R) (ok:Ok R o)
  (Z7:Yf w (.slice sa o.ZO.length sc) o.ZO.length (Zb o.ZO)) :
  Calls Tryz.prog 110 (Qf (some ⟨b,0,none⟩) (Ji o sa o.ZO.length sc ba bl bc)) w (Xx b R o w):=by
 have VU:=ok
 obtain ⟨kd,p,n,q,nm,ss⟩:=o
 obtain ⟨hk,hp,hj,ht,hs,yZ,oJ,MN⟩:=ok
 dsimp only at *
 by_cases k2:kd=2
 ·subst k2;exact Ag b R p n q nm ss sa ba _ sc bl bc w hR hp
 by_cases k3:kd=3
 ·subst k3;exact Cy b R p n q nm ss sa ba _ sc bl bc w hR hp
 have hn:=hs Zo
 by_cases k4:kd=4
 ·subst k4
  have h2:=(IE (yZ rfl)).2.1
  dsimp only at h2
  exact G7 b R p n q nm ss sa ba _ sc bl bc w hR hp hn Z7 Zo
 have MN:=MN Zo
 have hb:=fun q=>hI.Zx n.toNat q
 by_cases k5:kd=5
 ·subst k5;exact JT b R p n q nm ss sa ba _ sc bl bc w hR hn
 by_cases k6:kd=6
 ·subst k6;exact JS b R p n q nm ss sa ba _ sc bl bc w hR hp hn (PZ (Pz MN rfl).2.2)
 by_cases k7:kd=7
 ·subst k7;exact Ms b R p n q nm ss sa ba _ sc bl bc w hR hp hn
 by_cases k8:kd=8
 ·subst k8;exact Ah b R p n q nm ss sa ba _ sc bl bc w hR hn
 by_cases k9:kd=9
 ·subst k9;exact EJ b R p n q nm ss sa ba _ sc bl bc w hR hn fun p' _ ht=>⟨(hb p' ht).2.2.2.2.2.2.2.1,(hb p' ht).2.2.2.2.2.2.2.2⟩
 obtain ⟨h1,_,_,h4⟩:=Uj MN (by right;show 10≤kd;omega)
 dsimp only at h1 h4
 by_cases k10:kd=10
 ·subst k10;exact Cz b R p n q nm ss sa ba _ sc bl bc w hR hp hn
 by_cases k11:kd=11
 ·subst k11;exact EH b R p n q nm ss sa ba _ sc bl bc w hR hp hn ⟨(hb _ h1).2.2.2.2.2.2.2.1,(hb _ h1).2.2.2.2.2.2.2.2⟩
 obtain rfl:kd=12:=by omega
 exact EI b R p n q nm ss sa ba _ sc bl bc w hR hp hn (PZ (h4 rfl).1)
def Hb (b:Nat) (R:Room) (o:Op) (w:World) (e:Ending) (w':World):Prop:=
 ∃ v sv,e = .returned (.tuple #[v,.int .i64 (W9 R o sv).2])∧YM w' v (W9 R o sv).1.1∧Z4 w' b (W9 R o sv).1.2∧Fr w (· = b) w w'
theorem D4 {b:Nat} {R:Room} {o:Op} {w w':World} {x:Int} (hx:Hid (Yo R o=x)) (Xh:x≠0) (h2:Z4 w' b R) (h3:Fr w (· = b) w w'):Hb b R o w (.returned (.tuple (Q4 none 0 0 x))) w':=by
 have h:∀ sv,W9 R o sv=(([],R),x):=fun sv=>by unfold W9;rw [hx.o,ZX Xh]
 exact ⟨.slice none 0 0,.slice none 0 0,by rw [h],by rw [h];exact Row.nil _ _,by rw [h];exact h2,h3⟩
theorem D3 {b:Nat} {R:Room} {o:Op} {w w1 w':World} {v:Value} (hx:Hid (Yo R o=0)) (hb:Below w w w1) (h:Xx b R o w1 (.returned v) w'):Hb b R o w (.returned (.tuple #[v,.int .i64 0])) w':=by
 obtain ⟨v',sv,he,h1,h2,h3⟩:=h
 injection he with he
 subst he
 have hd:W9 R o sv=(turns R o sv,0):=by unfold W9;rw [hx.o];simp
 exact ⟨v,sv,by rw [hd],by rw [hd];exact h1,by rw [hd];exact h2,(Fr.Z9 _ hb).trans (h3.mono hb.size (fun _ _ h=>h))⟩
theorem G6 {b:Nat} {R:Room} {o:Op} {w w':World} {e:Ending} (h:Xx b R o w e w'):∃ v,e = .returned v∧Xx b R o w (.returned v) w':=by
 obtain ⟨v,sv,he,h1⟩:=h
 exact ⟨v,he,v,sv,rfl,h1⟩
theorem Kt {R:Room} (hI:Inv R):∀ p,(R.names p).length<9223372036854775807:=by
 intro p
 by_cases h:R.names p=[]
 ·rw [h];decide
 ·have:=N_.xQ (hI.nameAt p h).2
  omega
theorem pW (b:Nat) (R:Room) (o:Op) (sa ba:Option Addr) (sc bl bc:Nat) (w:World) (hR:Z4 w b R) (hI:Inv R) (hT:Xe w) (Vz:o.name.length<9223372036854775807)
  (Z7:Yf w (.slice sa o.ZO.length sc) o.ZO.length (Zb o.ZO)) :
  Calls Tryz.prog 77 (Qf (some ⟨b,0,none⟩) (Ji o sa o.ZO.length sc ba bl bc)) w (Hb b R o w):=by
 have CW:=Zh (fun (w1:World) (h:Below w w w1)=>wP b R o sa ba sc bl bc w1 (hR.below h) (Utf8Tabs_below hT h) Vz (Kt hI) (Z7.below h))
 have CT:=Zh (fun (w1:World) (h:Below w w w1) (ok:Yo R o=0)=>wL b R o sa ba sc bl bc w1 (hR.below h) hI (QH ok) (Z7.below h))
 have hb:=hR.lt
 have HRB:Hid (∀ w1,Below w w w1→Z4 w1 b R):=fun w1 h=>hR.below h
 have HDW:=Zh (fun (w':World) x=>@D4 b R o w w' x)
 have HDR:=Zh (fun (w1 w':World) v=>@D3 b R o w w1 w' v)
 have HTV:=Zh (fun (w1 w':World) e=>@G6 b R o w1 w' e)
 clear hR hI hT Vz Z7
 obtain ⟨kd,p,n,q,nm,ss⟩:=o
 dsimp only at *
 generalize Hb b R ⟨kd,p,n,q,nm,ss⟩ w=DP at *
 generalize hwx:Yo R ⟨kd,p,n,q,nm,ss⟩=x at *
 have HX:=Zh hwx
 clear hwx
 by_cases hx:x=0
 ·subst hx
  go_enter Tryz.func77,Tryz.ntmps77
  go_wp2_with fail
  refine (CW.o _ (Z' _ _)).mono ?_
  rintro e w1 ⟨rfl,Zj⟩
  have c0:=Zy (a:=⟨w,0,none⟩) Zj (v:= .int .i64 kd) Zi
  have c1:=Zy (a:=⟨w,1,none⟩) Zj (v:= .int .i64 p) Zi
  have c2:=Zy (a:=⟨w,2,none⟩) Zj (v:= .int .i64 n) Zi
  have c3:=Zy (a:=⟨w,3,none⟩) Zj (v:= .int .i64 q) Zi
  have c4:=Zy (a:=⟨w,4,none⟩) Zj (v:= .string (str nm)) Zi
  have c5:=Zy (a:=⟨w,5,none⟩) Zj (v:= .slice sa ss.length sc) Zi
  have c6:=Zy (a:=⟨w,6,none⟩) Zj (v:= .slice ba bl bc) Zi
  have XS:Below w w w1:=(Z' _ _).trans (Zj.mono Zi)
  clear Zj
  go_wp2_with fail
  refine (CT.o _ XS trivial).mono ?_
  intro e w2 hp
  obtain ⟨tv,rfl,hp⟩:=HTV.o _ _ _ hp
  have HP:=Zh hp
  clear hp
  go_wp2_with fail
  exact HDR.o _ _ _ (by first|exact rfl|exact trivial) XS HP.o
 ·have Dh:(x != 0)=true:=by rw [TF];exact hx
  have HXN:=Zh hx
  clear hx
  go_enter Tryz.func77,Tryz.ntmps77
  go_wp2_with fail
  refine (CW.o _ (Z' _ _)).mono ?_
  rintro e w1 ⟨rfl,Zj⟩
  have XS:Below w w w1:=(Z' _ _).trans (Zj.mono Zi)
  clear Zj
  go_wp2_with fail
  exact HDW.o _ _ (by first|exact rfl|exact trivial) HXN.o (HRB.o _ XS) (Fr.Z9 _ XS)
end Go.Proofs.Rm
namespace Go.Proofs.Rm
open Go.RowKit Go.Proofs.Heap Go.Proofs.Mem
theorem t_:∀ j,j<297→(((List.range 297).map (Xn empty)).toArray)[j]?=some (Xn empty j):=by
 intro j hj
 simp [hj]
theorem xd (w:World):Calls Tryz.prog 69 #[] w fun e w'=>e = .returned (.pointer (some ⟨w,0,none⟩))∧Z4 w' w.heap.size empty∧Below w w w':=by
 go_enter Tryz.func69,Tryz.ntmps69
 go_wp2
 go_ret
 have HZ:Tryz.zeroCells152=((List.range 297).map (Xn empty)).toArray:=by kernel_rfl
 refine ⟨rfl,⟨⟨_,Z5 _ _,by rw [HZ];simp,fun j hj=>by rw [HZ];exact t_ j hj⟩,fun n _=>Row.nil _ _⟩,Z' _ _⟩
theorem xV (R:Room) (x:Int):∀ k n:Nat,n+k≤9→0≤(SH R x k n).1∧(SH R x k n).1<9
 | 0,_,_=>by simp [SH]
 | k+1,n,h=>by
  unfold SH
  split
  ·dsimp only;omega
  ·exact xV R x k (n+1) Zo
theorem of_lt (R:Room) (x:Int):0≤(of R x).1∧(of R x).1<9:=xV R x 9 0 Zo
theorem AK (b:Nat) (R:Room) (p x:Int) (w:World) (hR:Z4 w b R) :
  Calls Tryz.prog 132 (Q8 (some ⟨b,0,none⟩) p x) w fun e w'=>
   (∃ v,e = .returned (.tuple #[v,.int .i64 (Y7 R p x).2])∧YM w' v (Y7 R p x).1.1)∧Z4 w' b (Y7 R p x).1.2∧Fr w (· = b) w w':=by
 have hb:=hR.lt
 have CO:=Zh (KE b R x w hR)
 have Rj:=of_lt R x
 have HG:Hid (Y7 R p x=if !(of R x).2.2 || !Zz R p || decide ((R.src (of R x).1.toNat).own≠p) then (([],R),8) else (gone R (of R x).1.toNat,0)):=rfl
 have HR:Hid (∀ w1,Below w w w1→Z4 w1 b R):=fun w1 h=>hR.below h
 clear hR
 generalize of R x=o at *
 obtain ⟨o1,o2,o3⟩:=o
 dsimp only at *
 obtain ⟨n,rfl⟩:=Rn Rj.1
 rw [Xf] at HG
 have hn:n<9:=by omega
 cases o3
 ·have HF:Hid (Y7 R p x=(([],R),8)):=by show _=_;rw [HG.o];rfl
  go_enter Tryz.func132,Tryz.ntmps132
  go_wp2_with (go_at_call 127;refine CO.o.mono ?_;rintro e w1 ⟨rfl,Zj⟩)
  exact gQ
 have CJ:Hid (∀ w1,Below w w w1→_):=fun w1 h=>U6 b R p w1 (HR.o w1 h)
 have CG:Hid (∀ w1,Below w w w1→_):=fun w1 h=>H7 b R n w1 (HR.o w1 h) hn
 have HSC:Hid (∀ w1,Below w w w1→w1.cell? ⟨b,9+n*5+1+1,none⟩=some (.int .i64 (R.src n).own)):=fun w1 h=>((HR.o w1 h).Nw hn).2.2.1
 cases hj:Zz R p
 ·have HF:Hid (Y7 R p x=(([],R),8)):=by show _=_;rw [HG.o,hj];rfl
  rw [hj] at CJ
  clear hj
  go_enter Tryz.func132,Tryz.ntmps132
  go_wp2_with (first|(go_at_call 127;refine CO.o.mono ?_;rintro e w1 ⟨rfl,Zj⟩)|(go_at_call 80;refine (CJ.o _ Zj).mono ?_;rintro e w2 ⟨rfl,rfl⟩))
  exact gQ
 rw [hj] at CJ HG
 clear hj
 by_cases ho:(R.src n).own=p
 ·have HF:Hid (Y7 R p x=(gone R n,0)):=by show _=_;rw [HG.o];simp [ho]
  rw [ho] at HSC
  clear ho HG
  generalize gone R n=G at *
  go_enter Tryz.func132,Tryz.ntmps132
  go_wp2_with (first|(go_at_call 127;refine CO.o.mono ?_;rintro e w1 ⟨rfl,Zj⟩;have hsc:=HSC.o _ Zj)|(go_at_call 80;refine (CJ.o _ Zj).mono ?_;rintro e w2 ⟨rfl,rfl⟩)|(go_at_call 137;refine (CG.o _ Zj).mono ?_;rintro e w2 ⟨⟨tv,rfl,S0⟩,XE,Xm⟩))
  go_ret2
  rw [HF.o]
  exact ⟨⟨_,rfl,S0⟩,XE,(Fr.Z9 _ Zj).trans (Xm.mono Zj.size (fun _ _ h=>h))⟩
 ·have HF:Hid (Y7 R p x=(([],R),8)):=by show _=_;rw [HG.o];simp [ho]
  have Dh:((R.src n).own != p)=true:=by rw [TF];exact ho
  clear ho HG
  go_enter Tryz.func132,Tryz.ntmps132
  go_wp2_with (first|(go_at_call 127;refine CO.o.mono ?_;rintro e w1 ⟨rfl,Zj⟩;have hsc:=HSC.o _ Zj)|(go_at_call 80;refine (CJ.o _ Zj).mono ?_;rintro e w2 ⟨rfl,rfl⟩))
  exact gQ
structure WU where
 num:Int
 name:List UInt8
deriving DecidableEq
structure XK where
 num:Int
 own:Int
 ss:List Int
 ZE:Bool
deriving DecidableEq
structure WJ where
 peer:Int
 source:Int
 want:Int
 ZR:Bool
deriving DecidableEq
structure ZU where
 ZK:List WU
 Yv:List XK
 Z8:List WJ
deriving DecidableEq
def Zf (x:WU):List Value:=(Qw x.num (str x.name))
def ZJ (x:XK × Value):List Value:=[.int .i64 x.1.num,.int .i64 x.1.own,x.2,.bool x.1.ZE]
def ZL (x:WJ):List Value:=(Qg x.peer x.source x.want x.ZR)
structure Sp (w:World) (pv sv uv:Value) (T:ZU):Prop where
 ZK:Row w 103 pv T.ZK.length (T.ZK.flatMap Zf)
 Yv:∃ ms:List (XK × Value),ms.map Prod.fst=T.Yv∧Row w 108 sv ms.length (ms.flatMap ZJ)∧∀ m∈ms,Row w 66 m.2 m.1.ss.length (Zb m.1.ss)
 Z8:Row w 105 uv T.Z8.length (T.Z8.flatMap ZL)
theorem Sp.fr {B:Nat} {S:Nat→Prop} {w w':World} {pv sv uv:Value} {T:ZU} (h:Sp w pv sv uv T) (hf:Fr B S w w') (hB:w.heap.size≤B)
  (h1:∀ k c fr,S k→w.heap[k]?≠some (.cells c 103 fr)) (h2:∀ k c fr,S k→w.heap[k]?≠some (.cells c 108 fr)) (h3:∀ k c fr,S k→w.heap[k]?≠some (.cells c 105 fr)) (h4:∀ k c fr,S k→w.heap[k]?≠some (.cells c 66 fr)):Sp w' pv sv uv T:=by
 obtain ⟨a,⟨ms,b1,b2,b3⟩,c⟩:=h
 exact ⟨a.fr hf hB h1,⟨ms,b1,b2.fr hf hB h2,fun m hm=>(b3 m hm).fr hf hB h4⟩,c.fr hf hB h3⟩
theorem Sp.below {w w':World} {pv sv uv:Value} {T:ZU} (h:Sp w pv sv uv T) (hb:Below w w w'):Sp w' pv sv uv T:=
 h.fr (Fr.Z9 Lm hb) (ZB _) (fun _ _ _ h=>h.elim) (fun _ _ _ h=>h.elim) (fun _ _ _ h=>h.elim) (fun _ _ _ h=>h.elim)
theorem Vv:Elem Tryz.prog 47 103 2 24:=⟨Tryz.underlying47,⟨.agg (Qw 0 ⟨#[]⟩),by kernel_rfl,rfl⟩,by decide⟩
theorem VY:Elem Tryz.prog 48 108 4 48:=⟨Tryz.underlying48,⟨.agg (Qj 0 0 none 0 0 false),by kernel_rfl,rfl⟩,by decide⟩
theorem VZ:Elem Tryz.prog 49 105 4 32:=⟨Tryz.underlying49,⟨.agg (Qg 0 0 0 false),by kernel_rfl,rfl⟩,by decide⟩
def Tw (R:Room) (k:Nat):List WU:=((List.range k).filter fun p:Nat=>Zz R p).map fun (p:Nat)=>⟨p,R.names p⟩
def Pb (R:Room) (n:Nat):Bool:=WB n 9 && (R.src n).there
def QC (R:Room) (k:Nat):List XK:=((List.range k).filter (Pb R)).map fun n=>⟨(R.src n).num,(R.src n).own,(R.src n).ss,(R.src n).ZE⟩
def SJ (R:Room) (n:Nat) (l:List Nat):List WJ:=l.map fun (p:Nat)=>⟨p,n,(R.sub n p).want,(R.sub n p).ZR⟩
def Sy (R:Room) (k:Nat):List WJ:=(List.range k).flatMap fun n=>SJ R n (Z8 R n)
def table (R:Room):ZU:=⟨Tw R 9,QC R 9,Sy R 9⟩
theorem Cu (R:Room) (k:Nat):Tw R (k+1)=Tw R k++if Zz R k then [⟨k,R.names k⟩] else []:=by
 unfold Tw
 rw [Aq,List.filter_append,ND]
 congr 1
 cases h:Zz R k <;> simp [h]
theorem zZ (R:Room) (k:Nat):QC R (k+1)=QC R k++if Pb R k then [⟨(R.src k).num,(R.src k).own,(R.src k).ss,(R.src k).ZE⟩] else []:=by
 unfold QC
 rw [Aq,List.filter_append,ND]
 congr 1
 cases h:Pb R k <;> simp [h]
theorem IU (R:Room) (k:Nat):Sy R (k+1)=Sy R k++SJ R k (Z8 R k):=by
 unfold Sy
 rw [Aq,QL]
 simp
theorem zY (R:Room) (k:Nat):(Tw R k).length≤k:=by
 unfold Tw
 rw [UM]
 have:=List.length_filter_le (fun p:Nat=>Zz R p) (List.range k)
 rw [List.length_range] at this
 exact this
theorem wI (R:Room) (k:Nat):(QC R k).length≤k:=by
 unfold QC
 rw [UM]
 have:=List.length_filter_le (Pb R) (List.range k)
 rw [List.length_range] at this
 exact this
structure TB (w w':World) (pv sv uv:Value):Prop where
 YI:Below w w w'
 Y8:w'.heap[w.heap.size+1]?=some (.cells #[pv,sv,uv] 51)
 Lv:w'.heap[w.heap.size]?=some (.cells (Qp none 0 0 none 0 0 none 0 0) 51)
theorem TB.size {w w':World} {pv sv uv:Value} (h:TB w w' pv sv uv):w.heap.size+1<w'.heap.size:=by
 rcases Nat.lt_or_ge (w.heap.size+1) w'.heap.size with h1|h1
 ·exact h1
 ·have:=h.Y8
  rw [Gt h1] at this;cases this
theorem TB.below {w w1 w':World} {pv sv uv:Value} (h:TB w w1 pv sv uv) (hb:Below w1 w1 w'):TB w w' pv sv uv:=by
 have hs:=h.size
 exact ⟨h.YI.trans (hb.mono Zo),by rw [hb.block _ hs];exact h.Y8,by rw [hb.block _ Zo];exact h.Lv⟩
theorem TB.grown {w w1 w':World} {pv sv uv:Value} (h:TB w w1 pv sv uv) {e:TypeId} {size:Nat} {v:Value} {m:Nat} {ys:List Value} (ho:w1.ownsRow (w.heap.size+2) e size v m ys) (hg:w1.grownBy w' v.ownBlock):TB w w' pv sv uv:=by
 have hs:=h.size
 have hle:=fun k (hk:v.ownBlock=some k)=>(show w.heap.size+2≤k from by
  obtain ⟨_,ho⟩:=ho
  rcases ho with ⟨rfl,_⟩|⟨g,cap,cur,rfl,hg,_⟩
  ·cases hk
  ·have hk:some g=some k:=hk
   cases hk;exact hg)
 refine ⟨h.YI.trans ⟨hg.os,hg.tape,hg.output,hg.size,fun k hk=>hg.block k Zo (fun e=>by have:=hle k e.symm;omega)⟩,?_,?_⟩
 ·rw [hg.block _ hs (fun e=>by have:=hle _ e.symm;omega)];exact h.Y8
 ·rw [hg.block _ Zo (fun e=>by have:=hle _ e.symm;omega)];exact h.Lv
theorem TB.cells {w w':World} {pv sv uv:Value} (h:TB w w' pv sv uv):w'.cell? ⟨w.heap.size+1,0,none⟩=some pv∧w'.cell? ⟨w.heap.size+1,1,none⟩=some sv∧w'.cell? ⟨w.heap.size+1,2,none⟩=some uv:=by
 have:=h.Y8
 refine ⟨?_,?_,?_⟩ <;> (simp only [World.cell?,this];rfl)
theorem TB.frozen {w w':World} {pv sv uv:Value} (h:TB w w' pv sv uv) (j:Nat):w'.frozen? ⟨w.heap.size+1,j,none⟩=false:=by
 have:=h.Y8
 simp [World.frozen?,this]
theorem TB.set {w w1:World} {pv sv uv:Value} (h:TB w w1 pv sv uv) (j:Nat) (v:Value):TB w (w1.setCell ⟨w.heap.size+1,j,none⟩ v) (if j=0 then v else pv) (if j=1 then v else sv) (if j=2 then v else uv):=by
 refine ⟨h.YI.setCell Zi _,?_,?_⟩
 ·have:=h.Y8
  simp only [World.setCell,Array.getElem?_modify,this]
  simp
  by_cases h0:j=0
  ·subst h0;rfl
  by_cases h1:j=1
  ·subst h1;rfl
  by_cases h2:j=2
  ·subst h2;rfl
  rw [Z6 h0,Z6 h1,Z6 h2,List.set_eq_of_length_le VB]
 ·have:=h.Lv
  simp only [World.setCell,Array.getElem?_modify,this]
  simp
end Go.Proofs.Rm
