/- Part of a proof. -/
import Derived.Test.YtpdjhlcbcomdkaaGreatDoorW09
set_option linter.unusedVariables false
set_option linter.unusedSimpArgs false
set_option maxRecDepth 100000
set_option maxHeartbeats 16000000
open Go Go.Q Go.Qr
namespace Go.Proofs.Rm
open Go.RowKit Go.Proofs.Heap Go.Proofs.Mem
def W8 (b:Nat) (R:Room) (o:Op) (w:World) (e:Ending) (w':World):Prop:=
 ∃ v sv,e = .returned v∧YG w' v (turns R o sv).1∧ZT w' b (turns R o sv).2∧Fr w (· = b) w w'
theorem Tu {b:Nat} {R R':Room} {o:Op} {w w':World} {v sv:Value} {l:List YD} (h:Hid (turns R o sv=(l,R'))) (h1:YG w' v l) (h2:ZT w' b R') (h3:Fr w (· = b) w w'):W8 b R o w (.returned v) w':=
 ⟨v,sv,rfl,by rw [h.o];exact h1,by rw [h.o];exact h2,h3⟩
theorem Tv {b:Nat} {R:Room} {o:Op} {w w1 w':World} {v sv:Value} {x:List YD × Room} (h:Hid (turns R o sv=x)) (h1:YG w' v x.1) (h2:ZT w' b x.2) (hw:Below w w w1) (h3:Fr w1 (· = b) w1 w'):W8 b R o w (.returned v) w':=
 ⟨v,sv,rfl,by rw [h.o];exact h1,by rw [h.o];exact h2,(Fr.Z8 _ hw).trans (h3.mono hw.size (fun _ _ h=>h))⟩
theorem NM (x:Sub) (on:Bool):∀ j,j<3→Tt {x with ZR:=on} j=if j=1 then .bool on else Tt x j:=by
 intro j hj
 have:j=0∨j=1∨j=2:=by omega
 rcases this with rfl|rfl|rfl <;> rfl
theorem DD (x:Sub) (q:Int):∀ j,j<3→Tt {x with want:=q} j=if j=2 then .int .i64 q else Tt x j:=by
 intro j hj
 have:j=0∨j=1∨j=2:=by omega
 rcases this with rfl|rfl|rfl <;> rfl
section
variable (b:Nat) (R:Room) (p n q:Int) (nm:List UInt8) (ss:List Int) (sa ba:Option Addr) (sl sc bl bc:Nat) (w:World) (hR:ZT w b R)
include hR
theorem yB (hp:1≤p∧p<9) :
  Calls Tryz.prog 110 (Qi (some ⟨b,0,none⟩) (Qa 2 p n q (str nm) sa sl sc ba bl bc)) w (W8 b R ⟨2,p,n,q,nm,ss⟩ w):=by
 obtain ⟨p,rfl⟩:=QT (show 0≤p by omega)
 have L4:p<9:=by omega
 have hb:=hR.lt
 have c0:=hR.vA L4
 have f0:=hR.YC p
 have HF:Hid (turns R ⟨2,p,n,q,nm,ss⟩ (.slice none 0 0)=([],R.setName p nm)):=rfl
 have KT:=Zh (hR.setName L4 nm)
 have Uh:Hid (Fr w (· = b) w (w.setCell ⟨b,p,none⟩ (.string (str nm)))):=(Fr.refl _ _ _).setAt _ _
 clear hR
 go_enter Tryz.func110,Tryz.ntmps110
 go_wp2
 go_region
 go_wp2
 go_ret
 exact Tu HF (Row.nil _ _) nK (by repeat (first|exact Uh.o|refine Fr.drew ?_|refine Fr.alloc ?_ (by simp <;> omega) _))
theorem Bk (hp:1≤p∧p<9) :
  Calls Tryz.prog 110 (Qi (some ⟨b,0,none⟩) (Qa 3 p n q (str nm) sa sl sc ba bl bc)) w (W8 b R ⟨3,p,n,q,nm,ss⟩ w):=by
 obtain ⟨p,rfl⟩:=QT (show 0≤p by omega)
 have L4:p<9:=by omega
 have hb:=hR.lt
 have HF:Hid (turns R ⟨3,p,n,q,nm,ss⟩ (.slice none 0 0)=leave R p):=rfl
 have C:=Zh (fun (w1:World) (h:Below w w w1)=>tN b R p w1 (hR.below h) L4)
 clear hR
 go_enter Tryz.func110,Tryz.ntmps110
 go_wp2_with (go_at_call 136;refine (C.o _ wz).mono ?_;rintro e w1 ⟨⟨tv,rfl,S8⟩,Xt,Wx⟩)
 go_ret
 exact Tv HF S8 Xt wz Wx
theorem I1 (hn:1≤n∧n<9) :
  Calls Tryz.prog 110 (Qi (some ⟨b,0,none⟩) (Qa 5 p n q (str nm) sa sl sc ba bl bc)) w (W8 b R ⟨5,p,n,q,nm,ss⟩ w):=by
 obtain ⟨n,rfl⟩:=QT (show 0≤n by omega)
 have Il:n<9:=by omega
 have hb:=hR.lt
 have HF:Hid (turns R ⟨5,p,n,q,nm,ss⟩ (.slice none 0 0)=gone R n):=rfl
 have C:=Zh (fun (w1:World) (h:Below w w w1)=>GL b R n w1 (hR.below h) Il)
 clear hR
 go_enter Tryz.func110,Tryz.ntmps110
 go_wp2_with (go_at_call 137;refine (C.o _ wz).mono ?_;rintro e w1 ⟨⟨tv,rfl,S8⟩,Xt,Wx⟩)
 go_ret
 exact Tv HF S8 Xt wz Wx
theorem I0 (hp:1≤p∧p<9) (hn:1≤n∧n<9) (hq:0≤q∧q<(R.src n.toNat).ss.length) :
  Calls Tryz.prog 110 (Qi (some ⟨b,0,none⟩) (Qa 6 p n q (str nm) sa sl sc ba bl bc)) w (W8 b R ⟨6,p,n,q,nm,ss⟩ w):=by
 have hb:=hR.lt
 have HF:Hid (turns R ⟨6,p,n,q,nm,ss⟩ (.slice none 0 0)=begin R ⟨6,p,n,q,nm,ss⟩):=rfl
 have C:=Zh (fun (w1:World) (h:Below w w w1)=>D8 b R ⟨6,p,n,q,nm,ss⟩ sa ba sl sc bl bc w1 (hR.below h) hn hp hq)
 clear hR
 go_enter Tryz.func110,Tryz.ntmps110
 go_wp2_with (go_at_call 138;refine (C.o _ wz).mono ?_;rintro e w1 ⟨⟨tv,rfl,S8⟩,Xt,Wx⟩)
 go_ret
 exact Tv HF S8 Xt wz Wx
theorem yC (hn:1≤n∧n<9) :
  Calls Tryz.prog 110 (Qi (some ⟨b,0,none⟩) (Qa 8 p n q (str nm) sa sl sc ba bl bc)) w (W8 b R ⟨8,p,n,q,nm,ss⟩ w):=by
 obtain ⟨n,rfl⟩:=QT (show 0≤n by omega)
 have Il:n<9:=by omega
 have hb:=hR.lt
 have HF:Hid (turns R ⟨8,p,n,q,nm,ss⟩ (.slice none 0 0)=mute R n true):=rfl
 have C:=Zh (fun (w1:World) (h:Below w w w1)=>lG b R n w1 (hR.below h) Il)
 exact gf
theorem DJ (hn:1≤n∧n<9) (hw:∀ p,p<9→(R.sub n.toNat p).there=true→0≤(R.sub n.toNat p).want∧(R.sub n.toNat p).want<(R.src n.toNat).ss.length) :
  Calls Tryz.prog 110 (Qi (some ⟨b,0,none⟩) (Qa 9 p n q (str nm) sa sl sc ba bl bc)) w (W8 b R ⟨9,p,n,q,nm,ss⟩ w):=by
 obtain ⟨n,rfl⟩:=QT (show 0≤n by omega)
 have Il:n<9:=by omega
 have hb:=hR.lt
 have HF:Hid (turns R ⟨9,p,n,q,nm,ss⟩ (.slice none 0 0)=mute R n false):=rfl
 have C:=Zh (fun (w1:World) (h:Below w w w1)=>qg b R n w1 (hR.below h) Il hw)
 exact gf
theorem LX (hp:1≤p∧p<9) (hn:1≤n∧n<9) :
  Calls Tryz.prog 110 (Qi (some ⟨b,0,none⟩) (Qa 7 p n q (str nm) sa sl sc ba bl bc)) w (W8 b R ⟨7,p,n,q,nm,ss⟩ w):=by
 obtain ⟨p,rfl⟩:=QT (show 0≤p by omega)
 have L4:p<9:=by omega
 obtain ⟨n,rfl⟩:=QT (show 0≤n by omega)
 have Il:n<9:=by omega
 have hb:=hR.lt
 have HF:Hid (turns R ⟨7,p,n,q,nm,ss⟩ (.slice none 0 0)=([⟨2,p,n,0,0⟩],R.ZP n p Ve)):=rfl
 have C:=Zh (fun (w1:World) (h:Below w w w1)=>Cq b R p n w1 (hR.below h) Il L4)
 clear hR
 go_enter Tryz.func110,Tryz.ntmps110
 go_wp2_with (go_at_call 139;refine (C.o _ wz).mono ?_;rintro e w1 ⟨rfl,Xt,Wx⟩;have XD:=Zh Xt;have Uh:=Zh Wx;clear Xt Wx)
 have hz:=Uh.o.size
 go_ret
 refine Tv HF (Yu _ _ 1 _ ([⟨2,p,n,0,0⟩].flatMap Z9) Zd Zi) (XD.o.alloc _) wz (Uh.o.alloc hz _)
theorem Bl (hp:1≤p∧p<9) (hn:1≤n∧n<9) :
  Calls Tryz.prog 110 (Qi (some ⟨b,0,none⟩) (Qa 10 p n q (str nm) sa sl sc ba bl bc)) w (W8 b R ⟨10,p,n,q,nm,ss⟩ w):=by
 obtain ⟨p,rfl⟩:=QT (show 0≤p by omega)
 have L4:p<9:=by omega
 obtain ⟨n,rfl⟩:=QT (show 0≤n by omega)
 have Il:n<9:=by omega
 have hb:=hR.lt
 obtain ⟨c0,c1,c2⟩:=hR.Hx Il L4
 have f1:=hR.YC (54+n*27+p*3+1)
 have HF:Hid (turns R ⟨10,p,n,q,nm,ss⟩ (.slice none 0 0)=([⟨4,p,n,0,0⟩],R.ZP n p {R.sub n p with ZR:=true})):=rfl
 have KT:=Zh (hR.SU Il L4 (i:=1) Zo (x:={R.sub n p with ZR:=true}) (v:= .bool true) (NM _ _))
 have Uh:Hid (Fr w (· = b) w (w.setCell ⟨b,54+n*27+p*3+1,none⟩ (.bool true))):=(Fr.refl _ _ _).setAt _ _
 clear hR
 go_enter Tryz.func110,Tryz.ntmps110
 go_wp2
 go_region
 go_wp2
 go_ret
 exact Tu HF (by first|exact Row.drew (Yu _ _ 1 _ ([⟨4,p,n,0,0⟩].flatMap Z9) Zd Zi)|exact Yu _ _ 1 _ ([⟨4,p,n,0,0⟩].flatMap Z9) Zd (by simp [size_setCell])) nK (by repeat (first|exact Uh.o|refine Fr.drew ?_|refine Fr.alloc ?_ (by simp <;> omega) _))
end
theorem Yv {w w':World} {a:Addr} {v:Value} (hb:Below w w w') (h:w.cell? a=some v):w'.cell? a=some v:=(hb.cell (World.block_lt_of_cell? w _ h)).trans h
theorem Ow {w:World} {a:Addr} {v:Value} (h:w.cell? a=some v) (o:Obj):(w.alloc o).cell? a=some v:=Yv (Z' _ _) h
theorem VD {w:World} {a:Addr} {v:Value} (h:w.cell? a=some v):w.drew.cell? a=some v:=h
theorem JB {w:World} {a:Addr} {v:Value} (h:w.drew.drew.cell? a=some v) (o:Obj):(w.alloc o).drew.drew.cell? a=some v:=Ow (w:=w) h o
theorem JC {w:World} {a:Addr} {v:Value} (h:w.drew.drew.drew.cell? a=some v) (o:Obj):(w.alloc o).drew.drew.drew.cell? a=some v:=Ow (w:=w) h o
theorem cell_grown {w w':World} {row:Option Nat} {a:Addr} {v:Value} (hg:w.grownBy w' row) (h:w.cell? a=some v) (WM:∀ k,row=some k→a.block<k):w'.cell? a=some v:=
 (World.cell?_of_block (hg.block a.block (World.block_lt_of_cell? w _ h) (fun e=>by have:=WM _ e.symm;omega))).trans h
theorem D_ {W:World} {m:Nat} (hm:W.heap.size=m) (A:Obj) (cs:Array Value) (e:TypeId) (j:Nat):((W.alloc A).alloc (.cells cs e)).cell? ⟨m+1,j,none⟩=cs[j]?:=by
 subst hm
 have:=(V9 W A (.cells cs e)).2
 simp only [World.cell?,this]
 rfl
theorem D9 {W:World} {m:Nat} (hm:W.heap.size=m) (B:Obj) (cs:Array Value) (e:TypeId) (j:Nat):((W.alloc (.cells cs e)).alloc B).cell? ⟨m,j,none⟩=cs[j]?:=by
 subst hm
 have:=(V9 W (.cells cs e) B).1
 simp only [World.cell?,this]
 rfl
structure TX (b:Nat) (R1:Room) (w w':World):Prop where
 room:ZT w' b R1
 fr:Fr w (· = b) w w'
 size:w.heap.size+1<w'.heap.size
theorem TX.drew {b:Nat} {R1:Room} {w w':World} (h:TX b R1 w w'):TX b R1 w w'.drew:=⟨h.room.drew,h.fr.drew,h.size⟩
theorem TX.alloc {b:Nat} {R1:Room} {w w':World} (h:TX b R1 w w') (o:Obj):TX b R1 w (w'.alloc o):=⟨h.room.alloc o,h.fr.alloc (by have:=h.size;omega) o,by have:=h.size;simp;omega⟩
theorem TX.below {b:Nat} {R1:Room} {w w1 w':World} (h:TX b R1 w w1) (hb:Below w1 w1 w'):TX b R1 w w':=
 ⟨h.room.below hb,h.fr.trans ((Fr.Z8 _ hb).mono (by have:=h.size;omega) (fun _ _ h=>h)),by have:=h.size;have:=hb.size;omega⟩
theorem TX.n9 {b:Nat} {R1:Room} {w w':World} (h:TX b R1 w w'.drew.drew) (o:Obj):TX b R1 w (w'.alloc o).drew.drew:=
 h.below ⟨rfl,rfl,rfl,by show w'.heap.size≤(w'.alloc o).heap.size;simp,fun k hk=>Below.heap_alloc _ _ _ hk⟩
theorem TX.n_ {b:Nat} {R1:Room} {w w':World} (h:TX b R1 w w'.drew.drew.drew) (o:Obj):TX b R1 w (w'.alloc o).drew.drew.drew:=
 h.below ⟨rfl,rfl,rfl,by show w'.heap.size≤(w'.alloc o).heap.size;simp,fun k hk=>Below.heap_alloc _ _ _ hk⟩
theorem TX.grown {b:Nat} {R1:Room} {w w1 w':World} (h:TX b R1 w w1) (hb:b<w.heap.size) {base:Nat} {v:Value} {m:Nat} {ys:List Value} (ho:w1.ownsRow base 158 5 v m ys) (hg:w1.grownBy w' v.ownBlock) (hB:w.heap.size≤base):TX b R1 w w':=
 ⟨ZT.grown h.room ho hg Zo Zd,h.fr.grown hg (by have:=h.size;omega) (fun k hk=>PW hB (YL ho k hk)),by have:=h.size;have:=hg.size;omega⟩
theorem Nh (w:World) (e:TypeId) (size n m base:Nat) (xs:List Value) (hl:xs.length=n*size) (hn:n≤maxLen) (hm:m=w.heap.size) (hB:base≤m):(w.alloc (.cells xs.toArray e)).ownsRow base e size (.slice (some ⟨m,0,none⟩) n n) n xs:=by
 exact Yt26
theorem TX.Ae {b:Nat} {R1:Room} {w w1 w':World} (h:TX b R1 w w1) (hb:b<w.heap.size) {v:Value} {m:Nat} {ys:List Value} (ho:w1.ownsRow (w.heap.size+2) 158 5 v m ys) (hg:Hid (w1.grownBy w' v.ownBlock)) :
  TX b R1 w w'∧∀ a u,a.block≤w.heap.size+1→w1.cell? a=some u→w'.cell? a=some u:=
 ⟨h.grown hb ho hg.o Zo,fun a u ha hu=>cell_grown hg.o hu (fun k hk=>by have:=YL ho k hk;omega)⟩
end Go.Proofs.Rm
namespace Go.Proofs.Rm
open Go.RowKit Go.Proofs.Heap Go.Proofs.Mem
theorem Pg {w:World} {b m i j:Nat} {u v:Value} (hb:b<m) (h:w.cell? ⟨m,j,none⟩=some v):(w.setCell ⟨b,i,none⟩ u).cell? ⟨m,j,none⟩=some v:=by
 rw [World.cell?_setCell_other _ _ _ _ (by intro e;injection e;omega)];exact h
theorem sJ {w:World} {b m j i0 i1 i2 i3 i4:Nat} {u0 u1 u2 u3 u4 v:Value} (hb:b<m) (h:w.cell? ⟨m,j,none⟩=some v):(((((w.setCell ⟨b,i0,none⟩ u0).setCell ⟨b,i1,none⟩ u1).setCell ⟨b,i2,none⟩ u2).setCell ⟨b,i3,none⟩ u3).setCell ⟨b,i4,none⟩ u4).cell? ⟨m,j,none⟩=some v:=
 Pg hb (Pg hb (Pg hb (Pg hb (Pg hb h))))
theorem ui {w:World} {b m i0 i1 i2 i3 i4:Nat} {u0 u1 u2 u3 u4:Value} (h:m<w.heap.size):m<(((((w.setCell ⟨b,i0,none⟩ u0).setCell ⟨b,i1,none⟩ u1).setCell ⟨b,i2,none⟩ u2).setCell ⟨b,i3,none⟩ u3).setCell ⟨b,i4,none⟩ u4).heap.size:=by
 simpa [size_setCell] using h
section
variable (b:Nat) (R:Room) (p n q:Int) (nm:List UInt8) (ss:List Int) (sa ba:Option Addr) (sl sc bl bc:Nat) (w:World) (hR:ZT w b R)
include hR
theorem FW (hp:1≤p∧p<9) (hn:1≤n∧n<9) (Z0:XU w (.slice sa sl sc) ss.length (YO ss)) (hl:ss.length≤1000000) :
  Calls Tryz.prog 110 (Qi (some ⟨b,0,none⟩) (Qa 4 p n q (str nm) sa sl sc ba bl bc)) w (W8 b R ⟨4,p,n,q,nm,ss⟩ w):=by
 obtain ⟨p,rfl⟩:=QT (show 0≤p by omega)
 have L4:p<9:=by omega
 obtain ⟨n,rfl⟩:=QT (show 0≤n by omega)
 have Il:n<9:=by omega
 have hb:=hR.lt
 have SH:Hid (∀ w1,Below w w w1→ZT w1 b R):=fun w1 h=>hR.below h
 have I5:Hid (sl=ss.length):=by
  obtain ⟨a',c',e,_⟩:=Z0
  injection e
 have HUF:Hid (∀ w1,ZT w1 b R→∀ j,w1.frozen? ⟨b,j,none⟩=false):=fun w1 h j=>h.YC j
 have C:=Zh (fun (w1:World) (h:Below w w w1)=>DT (.slice sa sl sc) ss w1 (Z0.below h) hl)
 have KM:∀ A B:Obj,Below w w ((w.alloc A).alloc B).drew:=fun A B=>(((YH _ _).alloc (Zw _) A).alloc Zi B).drew
 clear hR Z0 hl
 go_enter Tryz.func110,Tryz.ntmps110
 go_wp2
 go_region_held3 (fun w'=>w'.cell? ⟨w,1,none⟩=some (.int .i64 p)∧w'.cell? ⟨w,2,none⟩=some (.int .i64 n)∧w'.cell? ⟨w,5,none⟩=some (.slice sa sl sc)∧Fr w (· = b) w w'∧w.heap.size+1<w'.heap.size) (first|(refine ⟨?_,?_,?_,?_,?_⟩ <;> first|with_reducible assumption|(with_reducible refine Fr.drew ?_;with_reducible assumption)|(with_reducible refine Fr.Z8 _ ?_;with_reducible apply KM)|((with_reducible refine Fr.setAt ?_ _ _);(repeat (with_reducible refine Fr.setAt ?_ _ _));with_reducible assumption)|(with_reducible refine sJ hb ?_;with_reducible assumption)|(with_reducible refine ui ?_;with_reducible assumption)|go_keep)|go_keep) (first|(go_at_call 112;go_split_ands;refine Calls.mono (C.o _ (KM _ _)) ?_;rintro e w2 ⟨⟨cv,rfl,hcr⟩,Y0⟩;have Yt:=Below.trans (KM _ _) (Y0.mono (gW (Nat.lt_of_succ_lt WT)));have Sm:=Fr.Z8 (· = b) Yt;have tD:=Pb WT Y0.size;obtain ⟨ca,cc,hce,hcx⟩:=id hcr;clear hcx;subst hce;have HCR:=Zh hcr;clear hcr;obtain ⟨s0,s1,s2,s3,s4⟩:=(SH.o w2 Yt).MZ Il;have f0:=HUF.o w2 (SH.o w2 Yt) (9+n*5);have f1:=HUF.o w2 (SH.o w2 Yt) (9+n*5+1);have f2:=HUF.o w2 (SH.o w2 Yt) (9+n*5+2);have f3:=HUF.o w2 (SH.o w2 Yt) (9+n*5+3);have f4:=HUF.o w2 (SH.o w2 Yt) (9+n*5+4);have k1:=Yv (a:=⟨w,1,none⟩) Y0 WT;have k2:=Yv (a:=⟨w,2,none⟩) Y0 WT;have k5:=Yv (a:=⟨w,5,none⟩) Y0 WT))
 go_wp2
 go_ret
 have HF:Hid (turns R ⟨4,p,n,q,nm,ss⟩ (.slice ca ss.length cc)=([],R.Y6 n ⟨true,n,p,.slice ca ss.length cc,ss,false⟩)):=rfl
 exact Tu HF (Row.nil _ _) ((SH.o w2 Yt).Y6 Il ⟨true,n,p,.slice ca ss.length cc,ss,false⟩ HCR.o) (((((Sm.setAt _ _).setAt _ _).setAt _ _).setAt _ _).setAt _ _)
end
section
variable (b:Nat) (R:Room) (p n q:Int) (nm:List UInt8) (ss:List Int) (sa ba:Option Addr) (sl sc bl bc:Nat) (w:World) (hR:ZT w b R)
include hR
theorem DG (hp:1≤p∧p<9) (hn:1≤n∧n<9) (hw:0≤(R.sub n.toNat p.toNat).want∧(R.sub n.toNat p.toNat).want<(R.src n.toNat).ss.length) :
  Calls Tryz.prog 110 (Qi (some ⟨b,0,none⟩) (Qa 11 p n q (str nm) sa sl sc ba bl bc)) w (W8 b R ⟨11,p,n,q,nm,ss⟩ w):=by
 obtain ⟨p,rfl⟩:=QT (show 0≤p by omega)
 have L4:p<9:=by omega
 obtain ⟨n,rfl⟩:=QT (show 0≤n by omega)
 have Il:n<9:=by omega
 have hb:=hR.lt
 obtain ⟨c0,c1,c2⟩:=hR.Hx Il L4
 have fz:=hR.YC (54+n*27+p*3+1)
 have HF:Hid (turns R ⟨11,p,n,q,nm,ss⟩ (.slice none 0 0)=(⟨5,p,n,0,0⟩ :: waits (R.ZP n p {R.sub n p with ZR:=false}) p n,R.ZP n p {R.sub n p with ZR:=false})):=rfl
 have KT:=Zh (hR.SU Il L4 (i:=1) Zo (x:={R.sub n p with ZR:=false}) (v:= .bool false) (NM _ _))
 have Uh:Hid (Fr w (· = b) w (w.setCell ⟨b,54+n*27+p*3+1,none⟩ (.bool false))):=(Fr.refl _ _ _).setAt _ _
 have CW:Hid (∀ w1,ZT w1 b (R.ZP n p {R.sub n p with ZR:=false})→Calls Tryz.prog 141 (Qs (some ⟨b,0,none⟩) p n) w1 fun e w'=>(∃ v,e = .returned v∧YG w' v (waits (R.ZP n p {R.sub n p with ZR:=false}) p n))∧Below w1 w1 w'):=
  fun w1 h=>KJ b _ p n w1 h Il L4 (by rw [Wh];exact hw)
 have nv:(waits (R.ZP n p {R.sub n p with ZR:=false}) p n).length≤1:=by unfold waits;split <;> simp
 clear hR hw
 have HTX:Hid (∀ B1 B2:Obj,TX b (R.ZP n p {R.sub n p with ZR:=false}) w (((w.setCell ⟨b,54+n*27+p*3+1,none⟩ (.bool false)).alloc B1).alloc B2).drew):=fun B1 B2=>⟨((KT.o.alloc _).alloc _).drew,((Uh.o.alloc Zi _).alloc Zi _).drew,by simp⟩
 generalize waits (R.ZP n p {R.sub n p with ZR:=false}) p n=W at *
 generalize R.ZP n p {R.sub n p with ZR:=false}=R1 at *
 go_enter Tryz.func110,Tryz.ntmps110
 go_wp2
 go_region
 go_wp2
 have htx:=HTX.o
 go_region_held3 (fun w'=>w'.cell? ⟨w.heap.size+1,0,none⟩=some (.int .i64 5)∧w'.cell? ⟨w.heap.size+1,1,none⟩=some (.int .i64 p)∧w'.cell? ⟨w.heap.size+1,2,none⟩=some (.int .i64 n)∧w'.cell? ⟨w.heap.size+1,3,none⟩=some (.int .i64 0)∧w'.cell? ⟨w.heap.size+1,4,none⟩=some (.int .u32 0)∧w'.cell? ⟨w,1,none⟩=some (.int .i64 p)∧w'.cell? ⟨w,2,none⟩=some (.int .i64 n)∧TX b R1 w w') ((go_split_ands;((repeat' apply And.intro) <;> first|with_reducible assumption|((with_reducible apply VD);with_reducible assumption)|(with_reducible apply TX.drew;with_reducible assumption)|(with_reducible apply TX.drew;with_reducible apply htx)|(with_reducible apply Ow;with_reducible assumption)|(with_reducible apply JB;with_reducible assumption)|(with_reducible apply JC;with_reducible assumption)|(with_reducible apply TX.alloc;with_reducible assumption)|(with_reducible apply TX.n9;with_reducible assumption)|(with_reducible apply TX.n_;with_reducible assumption)|((with_reducible apply VD);(with_reducible apply VD);(with_reducible refine (D_ (size_setCell _ _ _) _ _ _ _).trans ?_);rfl)|((with_reducible apply VD);(with_reducible apply VD);(with_reducible refine (D9 (size_setCell _ _ _) _ _ _ _).trans ?_);rfl)|go_keep))) (first|(go_at_call 141;go_split_ands;refine Calls.mono (CW.o _ (TX.room WT)) ?_;rintro e w2 ⟨⟨tv,rfl,S8⟩,Y0⟩;have F4:=Zh S8;clear S8;have k0:=Yv (a:=⟨w.heap.size+1,0,none⟩) Y0 WT;have k1:=Yv (a:=⟨w.heap.size+1,1,none⟩) Y0 WT;have k2:=Yv (a:=⟨w.heap.size+1,2,none⟩) Y0 WT;have k3:=Yv (a:=⟨w.heap.size+1,3,none⟩) Y0 WT;have k4:=Yv (a:=⟨w.heap.size+1,4,none⟩) Y0 WT;have k5:=Yv (a:=⟨w,1,none⟩) Y0 WT;have k6:=Yv (a:=⟨w,2,none⟩) Y0 WT;have tx2:=TX.below WT Y0)|(go_split_ands;refine Zp Zr (.tmp 105) (.tmp 111) 98 Zr (w.heap.size+2) XP _ 1 ([YD.mk 5 p n 0 0].flatMap Z9) Zr ?_ _ W.length (W.flatMap Z9) Zr ?_ (VZ _) (Yc _) Zo Zo ?_ ?_;(first|exact Nh _ _ 5 1 _ _ ([YD.mk 5 p n 0 0].flatMap Z9) rfl Zd rfl (by have:=tx2.size;omega)|(exact Zy (by repeat (first|exact Rk _ _ 5 1 _ ([YD.mk 5 p n 0 0].flatMap Z9) rfl Zd Zi|refine Xi ?_)) Y0));(first|exact F4.o|exact F4.o.below (Z' _ _));(have hs:=TX.size WT;omega);intro v' w3 HO HG;obtain ⟨tx3,Ah⟩:=TX.Ae WT hb (by first|exact Nh _ _ 5 1 _ _ ([YD.mk 5 p n 0 0].flatMap Z9) rfl Zd rfl (by have:=tx2.size;omega)|(exact Zy (by repeat (first|exact Rk _ _ 5 1 _ ([YD.mk 5 p n 0 0].flatMap Z9) rfl Zd Zi|refine Xi ?_)) Y0)) HG;have g0:=Ah ⟨w.heap.size+1,0,none⟩ _ Zi WT;have g1:=Ah ⟨w.heap.size+1,1,none⟩ _ Zi WT;have g2:=Ah ⟨w.heap.size+1,2,none⟩ _ Zi WT;have g3:=Ah ⟨w.heap.size+1,3,none⟩ _ Zi WT;have g4:=Ah ⟨w.heap.size+1,4,none⟩ _ Zi WT;have g5:=Ah ⟨w,1,none⟩ _ Zi WT;have g6:=Ah ⟨w,2,none⟩ _ Zi WT;clear Ah))
 all_goals
  go_wp2
  go_ret
  have Z0:=Row.Z6 HO.o
  rw [Nat.add_comm] at Z0
  exact Tu HF Z0 tx3.room tx3.fr
end
end Go.Proofs.Rm
namespace Go.Proofs.Rm
open Go.RowKit Go.Proofs.Heap Go.Proofs.Mem
section
variable (b:Nat) (R:Room) (p n q:Int) (nm:List UInt8) (ss:List Int) (sa ba:Option Addr) (sl sc bl bc:Nat) (w:World) (hR:ZT w b R)
include hR
theorem DI (hp:1≤p∧p<9) (hn:1≤n∧n<9) (hw:0≤q∧q<(R.src n.toNat).ss.length) :
  Calls Tryz.prog 110 (Qi (some ⟨b,0,none⟩) (Qa 12 p n q (str nm) sa sl sc ba bl bc)) w (W8 b R ⟨12,p,n,q,nm,ss⟩ w):=by
 obtain ⟨p,rfl⟩:=QT (show 0≤p by omega)
 have L4:p<9:=by omega
 obtain ⟨n,rfl⟩:=QT (show 0≤n by omega)
 have Il:n<9:=by omega
 have hb:=hR.lt
 obtain ⟨c0,c1,c2⟩:=hR.Hx Il L4
 have fz:=hR.YC (54+n*27+p*3+2)
 have HF:Hid (turns R ⟨12,p,n,q,nm,ss⟩ (.slice none 0 0)=(⟨8,p,n,q,0⟩ :: waits (R.ZP n p {R.sub n p with want:=q}) p n,R.ZP n p {R.sub n p with want:=q})):=rfl
 have KT:=Zh (hR.SU Il L4 (i:=2) Zo (x:={R.sub n p with want:=q}) (v:= .int .i64 q) (DD _ _))
 have Uh:Hid (Fr w (· = b) w (w.setCell ⟨b,54+n*27+p*3+2,none⟩ (.int .i64 q))):=(Fr.refl _ _ _).setAt _ _
 have CW:Hid (∀ w1,ZT w1 b (R.ZP n p {R.sub n p with want:=q})→Calls Tryz.prog 141 (Qs (some ⟨b,0,none⟩) p n) w1 fun e w'=>(∃ v,e = .returned v∧YG w' v (waits (R.ZP n p {R.sub n p with want:=q}) p n))∧Below w1 w1 w'):=
  fun w1 h=>KJ b _ p n w1 h Il L4 (by rw [Wh];exact hw)
 have nv:(waits (R.ZP n p {R.sub n p with want:=q}) p n).length≤1:=by unfold waits;split <;> simp
 clear hR hw
 have HTX:Hid (∀ B1 B2:Obj,TX b (R.ZP n p {R.sub n p with want:=q}) w (((w.setCell ⟨b,54+n*27+p*3+2,none⟩ (.int .i64 q)).alloc B1).alloc B2).drew.drew):=fun B1 B2=>⟨((KT.o.alloc _).alloc _).drew.drew,((Uh.o.alloc Zi _).alloc Zi _).drew.drew,by simp⟩
 generalize waits (R.ZP n p {R.sub n p with want:=q}) p n=W at *
 generalize R.ZP n p {R.sub n p with want:=q}=R1 at *
 go_enter Tryz.func110,Tryz.ntmps110
 go_wp2
 go_region
 go_wp2
 go_region
 go_wp2
 have htx:=HTX.o
 go_region_held3 (fun w'=>w'.cell? ⟨w.heap.size+1,0,none⟩=some (.int .i64 8)∧w'.cell? ⟨w.heap.size+1,1,none⟩=some (.int .i64 p)∧w'.cell? ⟨w.heap.size+1,2,none⟩=some (.int .i64 n)∧w'.cell? ⟨w.heap.size+1,3,none⟩=some (.int .i64 q)∧w'.cell? ⟨w.heap.size+1,4,none⟩=some (.int .u32 0)∧w'.cell? ⟨w,1,none⟩=some (.int .i64 p)∧w'.cell? ⟨w,2,none⟩=some (.int .i64 n)∧TX b R1 w w') ((go_split_ands;((repeat' apply And.intro) <;> first|with_reducible assumption|((with_reducible apply VD);with_reducible assumption)|(with_reducible apply TX.drew;with_reducible assumption)|(with_reducible apply TX.drew;with_reducible apply htx)|(with_reducible apply Ow;with_reducible assumption)|(with_reducible apply JB;with_reducible assumption)|(with_reducible apply JC;with_reducible assumption)|(with_reducible apply TX.alloc;with_reducible assumption)|(with_reducible apply TX.n9;with_reducible assumption)|(with_reducible apply TX.n_;with_reducible assumption)|((with_reducible apply VD);(with_reducible apply VD);(with_reducible apply VD);(with_reducible refine (D_ (size_setCell _ _ _) _ _ _ _).trans ?_);rfl)|((with_reducible apply VD);(with_reducible apply VD);(with_reducible apply VD);(with_reducible refine (D9 (size_setCell _ _ _) _ _ _ _).trans ?_);rfl)|go_keep))) (first|(go_at_call 141;go_split_ands;refine Calls.mono (CW.o _ (TX.room WT)) ?_;rintro e w2 ⟨⟨tv,rfl,S8⟩,Y0⟩;have F4:=Zh S8;clear S8;have k0:=Yv (a:=⟨w.heap.size+1,0,none⟩) Y0 WT;have k1:=Yv (a:=⟨w.heap.size+1,1,none⟩) Y0 WT;have k2:=Yv (a:=⟨w.heap.size+1,2,none⟩) Y0 WT;have k3:=Yv (a:=⟨w.heap.size+1,3,none⟩) Y0 WT;have k4:=Yv (a:=⟨w.heap.size+1,4,none⟩) Y0 WT;have k5:=Yv (a:=⟨w,1,none⟩) Y0 WT;have k6:=Yv (a:=⟨w,2,none⟩) Y0 WT;have tx2:=TX.below WT Y0)|(go_split_ands;refine Zp Zr (.tmp 132) (.tmp 138) 98 Zr (w.heap.size+2) XP _ 1 ([YD.mk 8 p n q 0].flatMap Z9) Zr ?_ _ W.length (W.flatMap Z9) Zr ?_ (VZ _) (Yc _) Zo Zo ?_ ?_;(first|exact Nh _ _ 5 1 _ _ ([YD.mk 8 p n q 0].flatMap Z9) rfl Zd rfl (by have:=tx2.size;omega)|(exact Zy (by repeat (first|exact Rk _ _ 5 1 _ ([YD.mk 8 p n q 0].flatMap Z9) rfl Zd Zi|refine Xi ?_)) Y0));(first|exact F4.o|exact F4.o.below (Z' _ _));(have hs:=TX.size WT;omega);intro v' w3 HO HG;obtain ⟨tx3,Ah⟩:=TX.Ae WT hb (by first|exact Nh _ _ 5 1 _ _ ([YD.mk 8 p n q 0].flatMap Z9) rfl Zd rfl (by have:=tx2.size;omega)|(exact Zy (by repeat (first|exact Rk _ _ 5 1 _ ([YD.mk 8 p n q 0].flatMap Z9) rfl Zd Zi|refine Xi ?_)) Y0)) HG;have g0:=Ah ⟨w.heap.size+1,0,none⟩ _ Zi WT;have g1:=Ah ⟨w.heap.size+1,1,none⟩ _ Zi WT;have g2:=Ah ⟨w.heap.size+1,2,none⟩ _ Zi WT;have g3:=Ah ⟨w.heap.size+1,3,none⟩ _ Zi WT;have g4:=Ah ⟨w.heap.size+1,4,none⟩ _ Zi WT;have g5:=Ah ⟨w,1,none⟩ _ Zi WT;have g6:=Ah ⟨w,2,none⟩ _ Zi WT;clear Ah))
 all_goals
  go_wp2
  go_ret
  have Z0:=Row.Z6 HO.o
  rw [Nat.add_comm] at Z0
  exact Tu HF Z0 tx3.room tx3.fr
end
open Go.Proofs.Od (may key Xz)
theorem uo (b:Nat) (R:Room) (o:Op) (sa ba:Option Addr) (sc bl bc:Nat) (w:World) (hR:ZT w b R) (hI:Inv R) (ok:Ok R o)
  (Z0:XU w (.slice sa o.ZK.length sc) o.ZK.length (YO o.ZK)) :
  Calls Tryz.prog 110 (Qi (some ⟨b,0,none⟩) (Jm o sa o.ZK.length sc ba bl bc)) w (W8 b R o w):=by
 have V_:=ok
 obtain ⟨kd,p,n,q,nm,ss⟩:=o
 obtain ⟨hk,hp,hj,ht,hs,xd,kY,Mo⟩:=ok
 dsimp only at *
 by_cases k2:kd=2
 ·subst k2;exact yB b R p n q nm ss sa ba _ sc bl bc w hR hp
 by_cases k3:kd=3
 ·subst k3;exact Bk b R p n q nm ss sa ba _ sc bl bc w hR hp
 have hn:=hs Zo
 by_cases k4:kd=4
 ·subst k4
  have h2:=(Hl (xd rfl)).2.1
  dsimp only at h2
  exact FW b R p n q nm ss sa ba _ sc bl bc w hR hp hn Z0 Zo
 have Mo:=Mo Zo
 have hb:=fun q=>hI.Zb n.toNat q
 by_cases k5:kd=5
 ·subst k5;exact I1 b R p n q nm ss sa ba _ sc bl bc w hR hn
 by_cases k6:kd=6
 ·subst k6;exact I0 b R p n q nm ss sa ba _ sc bl bc w hR hp hn (Pw (Pc Mo rfl).2.2)
 by_cases k7:kd=7
 ·subst k7;exact LX b R p n q nm ss sa ba _ sc bl bc w hR hp hn
 by_cases k8:kd=8
 ·subst k8;exact yC b R p n q nm ss sa ba _ sc bl bc w hR hn
 by_cases k9:kd=9
 ·subst k9;exact DJ b R p n q nm ss sa ba _ sc bl bc w hR hn fun p' _ ht=>⟨(hb p' ht).2.2.2.2.2.2.2.1,(hb p' ht).2.2.2.2.2.2.2.2⟩
 obtain ⟨h1,_,_,h4⟩:=TL Mo (by right;show 10≤kd;omega)
 dsimp only at h1 h4
 by_cases k10:kd=10
 ·subst k10;exact Bl b R p n q nm ss sa ba _ sc bl bc w hR hp hn
 by_cases k11:kd=11
 ·subst k11;exact DG b R p n q nm ss sa ba _ sc bl bc w hR hp hn ⟨(hb _ h1).2.2.2.2.2.2.2.1,(hb _ h1).2.2.2.2.2.2.2.2⟩
 obtain rfl:kd=12:=by omega
 exact DI b R p n q nm ss sa ba _ sc bl bc w hR hp hn (Pw (h4 rfl).1)
def F9 (b:Nat) (R:Room) (o:Op) (w:World) (e:Ending) (w':World):Prop:=
 ∃ v sv,e = .returned (.tuple #[v,.int .i64 (Wm R o sv).2])∧YG w' v (Wm R o sv).1.1∧ZT w' b (Wm R o sv).1.2∧Fr w (· = b) w w'
theorem Co {b:Nat} {R:Room} {o:Op} {w w':World} {x:Int} (hx:Hid (X5 R o=x)) (WM:x≠0) (h2:ZT w' b R) (h3:Fr w (· = b) w w'):F9 b R o w (.returned (.tuple (Q6 none 0 0 x))) w':=by
 have h:∀ sv,Wm R o sv=(([],R),x):=fun sv=>by unfold Wm;rw [hx.o,ZQ WM]
 exact ⟨.slice none 0 0,.slice none 0 0,by rw [h],by rw [h];exact Row.nil _ _,by rw [h];exact h2,h3⟩
theorem Cn {b:Nat} {R:Room} {o:Op} {w w1 w':World} {v:Value} (hx:Hid (X5 R o=0)) (hb:Below w w w1) (h:W8 b R o w1 (.returned v) w'):F9 b R o w (.returned (.tuple #[v,.int .i64 0])) w':=by
 obtain ⟨v',sv,he,h1,h2,h3⟩:=h
 injection he with he
 subst he
 have hd:Wm R o sv=(turns R o sv,0):=by unfold Wm;rw [hx.o];simp
 exact ⟨v,sv,by rw [hd],by rw [hd];exact h1,by rw [hd];exact h2,(Fr.Z8 _ hb).trans (h3.mono hb.size (fun _ _ h=>h))⟩
theorem FV {b:Nat} {R:Room} {o:Op} {w w':World} {e:Ending} (h:W8 b R o w e w'):∃ v,e = .returned v∧W8 b R o w (.returned v) w':=by
 obtain ⟨v,sv,he,h1⟩:=h
 exact ⟨v,he,v,sv,rfl,h1⟩
theorem J0 {R:Room} (hI:Inv R):∀ p,(R.names p).length<9223372036854775807:=by
 intro p
 by_cases h:R.names p=[]
 ·rw [h];decide
 ·have:=Od.vv (hI.nameAt p h).2
  omega
theorem mH (b:Nat) (R:Room) (o:Op) (sa ba:Option Addr) (sc bl bc:Nat) (w:World) (hR:ZT w b R) (hI:Inv R) (hT:Xz w) (U0:o.name.length<9223372036854775807)
  (Z0:XU w (.slice sa o.ZK.length sc) o.ZK.length (YO o.ZK)) :
  Calls Tryz.prog 77 (Qi (some ⟨b,0,none⟩) (Jm o sa o.ZK.length sc ba bl bc)) w (F9 b R o w):=by
 have CW:=Zh (fun (w1:World) (h:Below w w w1)=>ux b R o sa ba sc bl bc w1 (hR.below h) (Utf8Tabs_below hT h) U0 (J0 hI) (Z0.below h))
 have CT:=Zh (fun (w1:World) (h:Below w w w1) (ok:X5 R o=0)=>uo b R o sa ba sc bl bc w1 (hR.below h) hI (PT ok) (Z0.below h))
 have hb:=hR.lt
 have bY:Hid (∀ w1,Below w w w1→ZT w1 b R):=fun w1 h=>hR.below h
 have HDW:=Zh (fun (w':World) x=>@Co b R o w w' x)
 have HDR:=Zh (fun (w1 w':World) v=>@Cn b R o w w1 w' v)
 have HTV:=Zh (fun (w1 w':World) e=>@FV b R o w1 w' e)
 clear hR hI hT U0 Z0
 obtain ⟨kd,p,n,q,nm,ss⟩:=o
 dsimp only at *
 generalize F9 b R ⟨kd,p,n,q,nm,ss⟩ w=DP at *
 generalize hwx:X5 R ⟨kd,p,n,q,nm,ss⟩=x at *
 have HX:=Zh hwx
 clear hwx
 by_cases hx:x=0
 ·subst hx
  go_enter Tryz.func77,Tryz.ntmps77
  go_wp2_with fail
  refine (CW.o _ (Z' _ _)).mono ?_
  rintro e w1 ⟨rfl,YZ⟩
  have c0:=Yv (a:=⟨w,0,none⟩) YZ (v:= .int .i64 kd) Zi
  have c1:=Yv (a:=⟨w,1,none⟩) YZ (v:= .int .i64 p) Zi
  have c2:=Yv (a:=⟨w,2,none⟩) YZ (v:= .int .i64 n) Zi
  have c3:=Yv (a:=⟨w,3,none⟩) YZ (v:= .int .i64 q) Zi
  have c4:=Yv (a:=⟨w,4,none⟩) YZ (v:= .string (str nm)) Zi
  have c5:=Yv (a:=⟨w,5,none⟩) YZ (v:= .slice sa ss.length sc) Zi
  have c6:=Yv (a:=⟨w,6,none⟩) YZ (v:= .slice ba bl bc) Zi
  have W9:Below w w w1:=(Z' _ _).trans (YZ.mono Zi)
  clear YZ
  go_wp2_with fail
  refine (CT.o _ W9 trivial).mono ?_
  intro e w2 hp
  obtain ⟨tv,rfl,hp⟩:=HTV.o _ _ _ hp
  have HP:=Zh hp
  clear hp
  go_wp2_with fail
  exact HDR.o _ _ _ (by first|exact rfl|exact trivial) W9 HP.o
 ·have uY:(x != 0)=true:=by rw [R6];exact hx
  have HXN:=Zh hx
  clear hx
  go_enter Tryz.func77,Tryz.ntmps77
  go_wp2_with fail
  refine (CW.o _ (Z' _ _)).mono ?_
  rintro e w1 ⟨rfl,YZ⟩
  have W9:Below w w w1:=(Z' _ _).trans (YZ.mono Zi)
  clear YZ
  go_wp2_with fail
  exact HDW.o _ _ (by first|exact rfl|exact trivial) HXN.o (bY.o _ W9) (Fr.Z8 _ W9)
end Go.Proofs.Rm
namespace Go.Proofs.Rm
open Go.RowKit Go.Proofs.Heap Go.Proofs.Mem
theorem qT:∀ j,j<297→(((List.range 297).map (WS empty)).toArray)[j]?=some (WS empty j):=by
 intro j hj
 simp [hj]
theorem uI (w:World):Calls Tryz.prog 69 #[] w fun e w'=>e = .returned (.pointer (some ⟨w,0,none⟩))∧ZT w' w.heap.size empty∧Below w w w':=by
 go_enter Tryz.func69,Tryz.ntmps69
 go_wp2
 go_ret
 have HZ:Tryz.zeroCells152=((List.range 297).map (WS empty)).toArray:=by kernel_rfl
 refine ⟨rfl,⟨⟨_,Z7 _ _,by rw [HZ];simp,fun j hj=>by rw [HZ];exact qT j hj⟩,fun n _=>Row.nil _ _⟩,Z' _ _⟩
theorem vC (R:Room) (x:Int):∀ k n:Nat,n+k≤9→0≤(Sa R x k n).1∧(Sa R x k n).1<9
 | 0,_,_=>by simp [Sa]
 | k+1,n,h=>by
  unfold Sa
  split
  ·dsimp only;omega
  ·exact vC R x k (n+1) Zo
theorem of_lt (R:Room) (x:Int):0≤(of R x).1∧(of R x).1<9:=vC R x 9 0 Zo
theorem zg (b:Nat) (R:Room) (p x:Int) (w:World) (hR:ZT w b R) :
  Calls Tryz.prog 132 (Q9 (some ⟨b,0,none⟩) p x) w fun e w'=>
   (∃ v,e = .returned (.tuple #[v,.int .i64 (YS R p x).2])∧YG w' v (YS R p x).1.1)∧ZT w' b (YS R p x).1.2∧Fr w (· = b) w w':=by
 have hb:=hR.lt
 have CO:=Zh (Ka b R x w hR)
 have Po:=of_lt R x
 have HG:Hid (YS R p x=if !(of R x).2.2 || !Ze R p || decide ((R.src (of R x).1.toNat).own≠p) then (([],R),8) else (gone R (of R x).1.toNat,0)):=rfl
 have HR:Hid (∀ w1,Below w w w1→ZT w1 b R):=fun w1 h=>hR.below h
 clear hR
 generalize of R x=o at *
 obtain ⟨o1,o2,o3⟩:=o
 dsimp only at *
 obtain ⟨n,rfl⟩:=QT Po.1
 rw [Wv] at HG
 have hn:n<9:=by omega
 cases o3
 ·have HF:Hid (YS R p x=(([],R),8)):=by show _=_;rw [HG.o];rfl
  go_enter Tryz.func132,Tryz.ntmps132
  go_wp2_with (go_at_call 127;refine CO.o.mono ?_;rintro e w1 ⟨rfl,YZ⟩)
  exact cB
 have CJ:Hid (∀ w1,Below w w w1→_):=fun w1 h=>TJ b R p w1 (HR.o w1 h)
 have CG:Hid (∀ w1,Below w w w1→_):=fun w1 h=>GL b R n w1 (HR.o w1 h) hn
 have HSC:Hid (∀ w1,Below w w w1→w1.cell? ⟨b,9+n*5+1+1,none⟩=some (.int .i64 (R.src n).own)):=fun w1 h=>((HR.o w1 h).MZ hn).2.2.1
 cases hj:Ze R p
 ·have HF:Hid (YS R p x=(([],R),8)):=by show _=_;rw [HG.o,hj];rfl
  rw [hj] at CJ
  clear hj
  go_enter Tryz.func132,Tryz.ntmps132
  go_wp2_with (first|(go_at_call 127;refine CO.o.mono ?_;rintro e w1 ⟨rfl,YZ⟩)|(go_at_call 80;refine (CJ.o _ YZ).mono ?_;rintro e w2 ⟨rfl,rfl⟩))
  exact cB
 rw [hj] at CJ HG
 clear hj
 by_cases ho:(R.src n).own=p
 ·have HF:Hid (YS R p x=(gone R n,0)):=by show _=_;rw [HG.o];simp [ho]
  rw [ho] at HSC
  clear ho HG
  generalize gone R n=G at *
  go_enter Tryz.func132,Tryz.ntmps132
  go_wp2_with (first|(go_at_call 127;refine CO.o.mono ?_;rintro e w1 ⟨rfl,YZ⟩;have hsc:=HSC.o _ YZ)|(go_at_call 80;refine (CJ.o _ YZ).mono ?_;rintro e w2 ⟨rfl,rfl⟩)|(go_at_call 137;refine (CG.o _ YZ).mono ?_;rintro e w2 ⟨⟨tv,rfl,S8⟩,Xt,Wx⟩))
  go_ret2
  rw [HF.o]
  exact ⟨⟨_,rfl,S8⟩,Xt,(Fr.Z8 _ YZ).trans (Wx.mono YZ.size (fun _ _ h=>h))⟩
 ·have HF:Hid (YS R p x=(([],R),8)):=by show _=_;rw [HG.o];simp [ho]
  have uY:((R.src n).own != p)=true:=by rw [R6];exact ho
  clear ho HG
  go_enter Tryz.func132,Tryz.ntmps132
  go_wp2_with (first|(go_at_call 127;refine CO.o.mono ?_;rintro e w1 ⟨rfl,YZ⟩;have hsc:=HSC.o _ YZ)|(go_at_call 80;refine (CJ.o _ YZ).mono ?_;rintro e w2 ⟨rfl,rfl⟩))
  exact cB
structure Vk where
 num:Int
 name:List UInt8
deriving DecidableEq
structure Wl where
 num:Int
 own:Int
 ss:List Int
 ZG:Bool
deriving DecidableEq
structure Vj where
 peer:Int
 source:Int
 want:Int
 ZR:Bool
deriving DecidableEq
structure ZN where
 ZA:List Vk
 Yk:List Wl
 Z5:List Vj
deriving DecidableEq
def Yz (x:Vk):List Value:=(Q0 x.num (str x.name))
def Zt (x:Wl × Value):List Value:=[.int .i64 x.1.num,.int .i64 x.1.own,x.2,.bool x.1.ZG]
def Zv (x:Vj):List Value:=(Qk x.peer x.source x.want x.ZR)
structure I_ (w:World) (pv sv uv:Value) (T:ZN):Prop where
 ZA:Row w 103 pv T.ZA.length (T.ZA.flatMap Yz)
 Yk:∃ ms:List (Wl × Value),ms.map Prod.fst=T.Yk∧Row w 108 sv ms.length (ms.flatMap Zt)∧∀ m∈ms,Row w 66 m.2 m.1.ss.length (YO m.1.ss)
 Z5:Row w 105 uv T.Z5.length (T.Z5.flatMap Zv)
theorem I_.fr {B:Nat} {S:Nat→Prop} {w w':World} {pv sv uv:Value} {T:ZN} (h:I_ w pv sv uv T) (hf:Fr B S w w') (hB:w.heap.size≤B)
  (h1:∀ k c fr,S k→w.heap[k]?≠some (.cells c 103 fr)) (h2:∀ k c fr,S k→w.heap[k]?≠some (.cells c 108 fr)) (h3:∀ k c fr,S k→w.heap[k]?≠some (.cells c 105 fr)) (h4:∀ k c fr,S k→w.heap[k]?≠some (.cells c 66 fr)):I_ w' pv sv uv T:=by
 obtain ⟨a,⟨ms,b1,b2,b3⟩,c⟩:=h
 exact ⟨a.fr hf hB h1,⟨ms,b1,b2.fr hf hB h2,fun m hm=>(b3 m hm).fr hf hB h4⟩,c.fr hf hB h3⟩
theorem I_.below {w w':World} {pv sv uv:Value} {T:ZN} (h:I_ w pv sv uv T) (hb:Below w w w'):I_ w' pv sv uv T:=
 h.fr (Fr.Z8 P_ hb) (Zw _) (fun _ _ _ h=>h.elim) (fun _ _ _ h=>h.elim) (fun _ _ _ h=>h.elim) (fun _ _ _ h=>h.elim)
theorem TY:Elem Tryz.prog 47 103 2 24:=⟨Tryz.underlying47,⟨.agg (Q0 0 ⟨#[]⟩),by kernel_rfl,rfl⟩,by decide⟩
theorem U2:Elem Tryz.prog 48 108 4 48:=⟨Tryz.underlying48,⟨.agg (Qp 0 0 none 0 0 false),by kernel_rfl,rfl⟩,by decide⟩
theorem Ur:Elem Tryz.prog 49 105 4 32:=⟨Tryz.underlying49,⟨.agg (Qk 0 0 0 false),by kernel_rfl,rfl⟩,by decide⟩
end Go.Proofs.Rm
namespace Go.Proofs.Rm
open Go.RowKit Go.Proofs.Heap Go.Proofs.Mem
theorem WI {base:Nat} {e:TypeId} {size:Nat} {v:Value} {n:Nat} {xs:List Value} {w:World} (h:w.ownsRow base e size v n xs):∃ a c,v = .slice a n c:=by
 obtain ⟨_,h⟩:=h
 rcases h with ⟨rfl,rfl⟩|⟨g,cap,cur,rfl,_⟩
 ·exact ⟨_,_,rfl⟩
 ·exact ⟨_,_,rfl⟩
theorem set3 {w:World} {b:Nat} {u0 u1 u2 v0 v1 v2:Value} (h0:w.cell? ⟨b,0,none⟩=some u0) (h1:w.cell? ⟨b,1,none⟩=some u1) (h2:w.cell? ⟨b,2,none⟩=some u2) :
  (((w.setCell ⟨b,0,none⟩ v0).setCell ⟨b,1,none⟩ v1).setCell ⟨b,2,none⟩ v2).cell? ⟨b,0,none⟩=some v0∧(((w.setCell ⟨b,0,none⟩ v0).setCell ⟨b,1,none⟩ v1).setCell ⟨b,2,none⟩ v2).cell? ⟨b,1,none⟩=some v1∧(((w.setCell ⟨b,0,none⟩ v0).setCell ⟨b,1,none⟩ v1).setCell ⟨b,2,none⟩ v2).cell? ⟨b,2,none⟩=some v2:=by
 have e01:(⟨b,0,none⟩:Addr)≠⟨b,1,none⟩:=by simp
 have e02:(⟨b,0,none⟩:Addr)≠⟨b,2,none⟩:=by simp
 have e12:(⟨b,1,none⟩:Addr)≠⟨b,2,none⟩:=by simp
 refine ⟨?_,?_,?_⟩
 ·rw [World.cell?_setCell_other _ _ _ _ Zi,World.cell?_setCell_other _ _ _ _ Zi,rp _ _ _ h0]
 ·rw [World.cell?_setCell_other _ _ _ _ Zi,rp (u:=u1)]
  rw [World.cell?_setCell_other _ _ _ _ Zi];exact h1
 ·rw [rp (u:=u2)]
  rw [World.cell?_setCell_other _ _ _ _ Zi,World.cell?_setCell_other _ _ _ _ Zi];exact h2
section
end
theorem LF (x:Vk):∀ u∈Yz x,u.oneCell'=true:=by
 intro u hu
 simp only [Yz,Mg,List.mem_nil_iff,or_false] at hu
 rcases hu with rfl|rfl <;> rfl
theorem LW (x:Vj):∀ u∈Zv x,u.oneCell'=true:=by
 intro u hu
 simp only [Zv,Mg,List.mem_nil_iff,or_false] at hu
 rcases hu with rfl|rfl|rfl|rfl <;> rfl
theorem LU (x:Wl) (a:Option Addr) (n c:Nat):∀ u∈Zt (x,.slice a n c),u.oneCell'=true:=by
 intro u hu
 simp only [Zt,Mg,List.mem_nil_iff,or_false] at hu
 rcases hu with rfl|rfl|rfl|rfl <;> rfl
end Go.Proofs.Rm
namespace Go.Proofs.Frame
open Go.RowKit Go.WideShapes Go.ChangeShapes
section
variable {H:Type} {enc:TypeId × Value→H} {P:Program}
theorem MU (hl:laidOutB P=true) {W W':World} {sp':Nat→Bool} (hb:Below W W W'):∀ {ts:List TypeId} {vs:List Value} {ds:List (DataW H)} {ps:List MemPlace},
  (∀ t∈ts,P.readableRec t=true∧t<P.types.size)→DataW.TrodAll enc P W 0 (fun _=>true) true ts vs ds ps→(∀ p∈ps,p.block<W.heap.size)→(∀ p∈ps,sp' p.block=true) →
  DataW.TrodAll enc P W' 0 sp' true ts vs ds ps
 | [],[],[],_,_,h,_,_=>h
 | t :: ts,v :: vs,d :: ds,ps,ht,h,Po,hsp=>by
  obtain ⟨p,q,h1,h2,rfl⟩:=h
  refine ⟨p,q,?_,?_,rfl⟩
  ·exact WideElems.Trod_stays hl (ht t (List.mem_cons_self ..)).1 (ht t (List.mem_cons_self ..)).2 h1 (fun x hx=>hb.same (Po x (D5.2 (Ww hx)))) (fun x hx=>hsp x (D5.2 (Ww hx)))
  ·exact MU hl hb (fun t' h'=>ht t' (List.mem_cons_of_mem _ h')) h2 (fun x hx=>Po x (D5.2 (Wi hx))) (fun x hx=>hsp x (D5.2 (Wi hx)))
 | [],[],_ :: _,_,_,h,_,_=>h.elim
 | [],_ :: _,_,_,_,h,_,_=>h.elim
 | _ :: _,[],_,_,_,h,_,_=>h.elim
 | _ :: _,_ :: _,[],_,_,h,_,_=>h.elim
theorem AG {f:Func} {s:ChangeSpec} {apart fresh handsOn again:Bool} {W W':World} {args:Array Value} {ds gs:List (DataW H)} {before:List MemPlace} {tb:TypeId}
  (hW:DataW.Whole enc P f.params.toList s.vars apart W args.toList ds gs before) (hl:laidOutB P=true) (ht:∀ t∈f.params.toList,P.readableRec t=true∧t<P.types.size)
  (hv:s.vars=[]) (hs:s.fn H (ds++gs)={results:=[.lit (.bool true)],args:=ds}) (Lq:f.resultTypes=#[tb]) (iq:P.underlying tb=some .bool)
  (hb:Below W W W') :
  s.post enc P f apart fresh handsOn again W args (.bool true) W':=by
 have Po:∀ p∈before,p.block<W.heap.size:=fun p hp=>hW.lt p hp
 have hold:∀ p∈before,(fun b=>decide (b<W.heap.size)) p.block=true:=fun p hp=>by simpa using Po p hp
 have hW0:=hW
 obtain ⟨p,q,hA,hV,iN,hz,hn⟩:=hW
 rw [hv] at hV
 obtain ⟨rfl,rfl⟩:=trodVars_none hV
 rw [wC] at iN
 subst iN
 have uW:∀ sp:Nat→Bool,(∀ p∈before,sp p.block=true)→DataW.TrodAll enc P W' 0 sp true f.params.toList args.toList (s.fn H (ds++[])).args before:=by
  intro sp hsp
  rw [hs]
  exact MU hl hb ht hA Po hsp
 have hr:∀ (b:Nat) (sp:Nat→Bool) (hd:Bool),DataW.TrodAll enc P W' b sp hd f.resultTypes.toList ((Value.bool true).resultList f.resultTypes.size) (s.fn H (ds++[])).results []:=by
  intro b sp hd
  rw [hs,Lq]
  exact trodAll_cons_mk (shut_bool iq _) trodAll_mk0
 have iV:∀ sp:Nat→Bool,(∀ p∈before,sp p.block=true)→DataW.TrodVars enc P W' sp s.vars (s.fn H (ds++[])).vars []:=by
  intro sp _
  rw [hs,hv]
  rfl
 have V_:∀ (j:Nat) (t:TypeId) (r:Value),f.resultTypes[j]?=some t→((Value.bool true).resultList f.resultTypes.size)[j]?=some r→Value.okWide P W' .any 0 t r:=by
  exact ok_one Lq rfl (okWide_bool_mk iq _)
 refine ⟨ds,[],before,[],before,[],hW0,hr _ _ _,uW _ hold,iV _ hold,World.keptBut_mono (fun p hp=>⟨hp,?_⟩) (hb.frame (· ∈ before)),fun _=>?_⟩
 ·simpa using hp
 ·refine ⟨V_,_,_,([]++before)++[],⟨[]++before,[],trodAll_append (uW _ (fun _ _=>rfl)) (hr _ _ _),iV _ (fun _ _=>rfl),rfl,?_,?_⟩,?_⟩
  ·intro b off hp
   have GW:MemPlace.cell b off∈before:=by simpa using hp
   rw [hb.frozen (Po _ GW)]
   exact hz b off GW
  ·intro ha
   simpa using hn ha
  ·intro p hp _
   simpa using hp
theorem JD {r:Reach} {b0:Nat} {t e:TypeId} {W:World} {v:Value} (ht:P.underlying t=some (.slice e)) (h:Value.okWide P W r b0 t v):v.cells=#[v]:=by
 obtain ⟨a,l,c,rfl⟩:=okWide_slice ht h
 rfl
end
end Go.Proofs.Frame
namespace Go.Proofs.Rm
open Go.RowKit Go.WideShapes Go.ChangeShapes Go.Proofs.Heap Go.Proofs.Mem Go.Deep
structure aL where
 o:Op
 sa:Option Addr
 sc:Nat
 ba:Option Addr
 bl:Nat
 bc:Nat
def Xm (x:aL):List Value:=(Jm x.o x.sa x.o.ZK.length x.sc x.ba x.bl x.bc)
section
variable {H:Type} {enc:TypeId × Value→H} {W:World} {base:Nat} {sp:Nat→Bool} {held:Bool}
theorem Nk {w:World} {a:Addr} {v:Value} (h:w.cell? a=some v):a=⟨a.block,a.off,none⟩:=by
 obtain ⟨b,o,s⟩:=a
 cases s with
 | none=>rfl
 | some x=>simp [World.cell?] at h;split at h <;> simp_all
theorem K5 {a:Addr} (h:a=⟨a.block,a.off,none⟩) (j:Nat):a.add j=⟨a.block,a.off+j,none⟩:=by
 unfold Addr.add
 split
 ·rename_i h0;subst h0;exact h
 ·rw [h]
theorem E9 {fuel:Nat} {v:Value} {x:DataW H × List MemPlace} (h:DataW.trod enc Tryz.prog W base sp held fuel 29 [v]=some x):∃ (l:List Int) (a:Option Addr) (c:Nat),v = .slice a l.length c∧XU W (.slice a l.length c) l.length (YO l):=by
 rcases open_slice1 Tryz.underlying29 ZB h with ⟨hc,_⟩|⟨a,len,cap,m,n,V,D,Pl,Tz,hb,hl,hm,hmm,_,hx⟩
 ·exact ⟨[],none,0,by simpa using hc,XU.nil _⟩
 ·have BB:len≤m:=by rw [hmm];split <;> omega
  have hv:v = .slice (some a) len cap:=by simpa using Tz
  have key:∀ i,i<len→∃ z,W.cell? (a.add i)=some (.int .u32 z)∧V i = .int .u32 z:=by
   intro i hi
   obtain ⟨h1,h2⟩:=hx i Zo
   obtain ⟨z,hz,_⟩:=DataW.trod_int Tryz.underlying66 h2
   have hz:V i = .int .u32 z:=by simpa using hz
   exact ⟨z,by rw [h1,hz],hz⟩
  let l:List Int:=(List.range len).map fun i=>match V i with | .int _ z=>z|_=>0
  have w_:l.length=len:=by simp [l]
  refine ⟨l,some a,cap,by rw [w_];exact hv,some a,cap,rfl,by rw [w_];exact hl,hm,(fun h=>by cases h),?_⟩
  by_cases h0:len=0
  ·exact Ww (Cc (by rw [V5,w_];exact h0))
  ·obtain ⟨z0,vg,_⟩:=key 0 Zo
   have pV:W.cell? a=some (.int .u32 z0):=by unfold Addr.add at vg;simpa using vg
   have ha:=Nk pV
   refine Wi ⟨a.block,a.off,by rw [←ha],World.block_lt_of_cell? W a pV,fun j hj=>?_⟩
   rw [V5,w_] at hj
   obtain ⟨z,hz,hV⟩:=key j hj
   rw [←K5 ha,hz]
   simp [YO,l,hj,hV]
theorem seven {α:Type} {l:List α} (h:l.length=7):∃ c0 c1 c2 c3 c4 c5 c6,l=[c0,c1,c2,c3,c4,c5,c6]:=by
 obtain _|⟨c0,l⟩:=l
 ·simp at h
 obtain _|⟨c1,l⟩:=l
 ·simp at h
 obtain _|⟨c2,l⟩:=l
 ·simp at h
 obtain _|⟨c3,l⟩:=l
 ·simp at h
 obtain _|⟨c4,l⟩:=l
 ·simp at h
 obtain _|⟨c5,l⟩:=l
 ·simp at h
 obtain _|⟨c6,l⟩:=l
 ·simp at h
 obtain _|⟨c7,l⟩:=l
 ·exact ⟨_,_,_,_,_,_,_,rfl⟩
 ·simp at h
theorem NT {P:Program} {e:TypeId}:∀ {l:List (DataW H)} {d:DataW H},d∈l→∀ n∈d.weights P e,n∈DataW.weightsAll P e l
 | d0 :: l,d,hd,n,hn=>by
  simp only [DataW.weightsAll,D5]
  rcases Mg.1 hd with rfl|hd
  ·exact Ww hn
  ·exact Wi (NT hd n hn)
 | [],_,hd,_,_=>by simp at hd
end
theorem xZ {α:Type} (f:α→List Value) (k:Nat) (hk:∀ x,(f x).length=k) (iE:0<k) {w:World} {e:TypeId} {v:Value} {n:Nat} {l:List α} (h:Row w e v n (l.flatMap f)) (hl:0<l.length) :
  ∃ g off cap,v = .slice (some ⟨g,off,none⟩) n cap∧n≤cap∧cap≤maxLen∧g<w.heap.size∧∀ (i:Nat) (x:α),l[i]?=some x→∀ j,j<k→w.cell? ⟨g,off+i*k+j,none⟩=(f x)[j]?:=by
 exact Yx80
end Go.Proofs.Rm
namespace Go.Proofs.Rm
open Go.RowKit Go.Proofs.Heap Go.Proofs.Mem
end Go.Proofs.Rm
