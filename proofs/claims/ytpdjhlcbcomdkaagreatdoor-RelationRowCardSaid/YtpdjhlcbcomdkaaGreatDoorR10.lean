/- Part of a proof. -/
import Derived.Test.YtpdjhlcbcomdkaaGreatDoorR09
set_option linter.unusedVariables false
set_option linter.unusedSimpArgs false
set_option maxRecDepth 100000
set_option maxHeartbeats 16000000
open Go Go.Q Go.Qr
namespace Go.Proofs.Rm
open Go.RowKit Go.Proofs.Heap Go.Proofs.Mem
def WZ (b:Nat) (R:Room) (o:Op) (w:World) (e:Ending) (w':World):Prop:=
 ∃ v sv,e = .returned v∧YF w' v (turns R o sv).1∧ZT w' b (turns R o sv).2∧Fr w (· = b) w w'
theorem Ti {b:Nat} {R R':Room} {o:Op} {w w':World} {v sv:Value} {l:List YB} (h:Hid (turns R o sv=(l,R'))) (h1:YF w' v l) (h2:ZT w' b R') (h3:Fr w (· = b) w w'):WZ b R o w (.returned v) w':=
 ⟨v,sv,rfl,by rw [h.o];exact h1,by rw [h.o];exact h2,h3⟩
theorem Tj {b:Nat} {R:Room} {o:Op} {w w1 w':World} {v sv:Value} {x:List YB × Room} (h:Hid (turns R o sv=x)) (h1:YF w' v x.1) (h2:ZT w' b x.2) (hw:Below w w w1) (h3:Fr w1 (· = b) w1 w'):WZ b R o w (.returned v) w':=
 ⟨v,sv,rfl,by rw [h.o];exact h1,by rw [h.o];exact h2,(Fr.Z7 _ hw).trans (h3.mono hw.size (fun _ _ h=>h))⟩
theorem NA (x:Sub) (on:Bool):∀ j,j<3→Th {x with ZQ:=on} j=if j=1 then .bool on else Th x j:=by
 intro j hj;have:j=0∨j=1∨j=2:=by omega
 rcases this with rfl|rfl|rfl <;> rfl
theorem Dn (x:Sub) (q:Int):∀ j,j<3→Th {x with want:=q} j=if j=2 then .int .i64 q else Th x j:=by
 intro j hj;have:j=0∨j=1∨j=2:=by omega
 rcases this with rfl|rfl|rfl <;> rfl
section
variable (b:Nat) (R:Room) (p n q:Int) (nm:List UInt8) (ss:List Int) (sa ba:Option Addr) (sl sc bl bc:Nat) (w:World) (hR:ZT w b R)
include hR
theorem x8 (hp:1≤p∧p<9) :
  Calls Tryz.prog 110 (Qi (some ⟨b,0,none⟩) (Qa 2 p n q (str nm) sa sl sc ba bl bc)) w (WZ b R ⟨2,p,n,q,nm,ss⟩ w):=by
 obtain ⟨p,rfl⟩:=Rf (show 0≤p by omega);have LJ:p<9:=by omega
 have hb:=hR.lt;have c0:=hR.uW LJ;have f0:=hR.Yz p;have HF:Hid (turns R ⟨2,p,n,q,nm,ss⟩ (.slice none 0 0)=([],R.setName p nm)):=rfl;have KG:=Zh (hR.setName LJ nm);have T8:Hid (Fr w (· = b) w (w.setCell ⟨b,p,none⟩ (.string (str nm)))):=(Fr.refl _ _ _).setAt _ _;clear hR;go_enter Tryz.func110,Tryz.ntmps110;go_wp2
 go_region
 go_wp2;go_ret;exact Ti HF (Row.nil _ _) mR (by repeat (first|exact T8.o|refine Fr.drew ?_|refine Fr.alloc ?_ (by simp <;> omega) _))
theorem A6 (hp:1≤p∧p<9) :
  Calls Tryz.prog 110 (Qi (some ⟨b,0,none⟩) (Qa 3 p n q (str nm) sa sl sc ba bl bc)) w (WZ b R ⟨3,p,n,q,nm,ss⟩ w):=by
 obtain ⟨p,rfl⟩:=Rf (show 0≤p by omega);have LJ:p<9:=by omega
 have hb:=hR.lt;have HF:Hid (turns R ⟨3,p,n,q,nm,ss⟩ (.slice none 0 0)=leave R p):=rfl;have C:=Zh (fun (w1:World) (h:Below w w w1)=>sV b R p w1 (hR.below h) LJ);clear hR;go_enter Tryz.func110,Tryz.ntmps110;go_wp2_with (go_at_call 136;refine (C.o _ vN).mono ?_;rintro e w1 ⟨⟨tv,rfl,S3⟩,Xp,Wu⟩)
 go_ret;exact Tj HF S3 Xp vN Wu
theorem II (hn:1≤n∧n<9) :
  Calls Tryz.prog 110 (Qi (some ⟨b,0,none⟩) (Qa 5 p n q (str nm) sa sl sc ba bl bc)) w (WZ b R ⟨5,p,n,q,nm,ss⟩ w):=by
 obtain ⟨n,rfl⟩:=Rf (show 0≤n by omega);have H8:n<9:=by omega
 have hb:=hR.lt;have HF:Hid (turns R ⟨5,p,n,q,nm,ss⟩ (.slice none 0 0)=gone R n):=rfl;have C:=Zh (fun (w1:World) (h:Below w w w1)=>Gr b R n w1 (hR.below h) H8);clear hR;go_enter Tryz.func110,Tryz.ntmps110;go_wp2_with (go_at_call 137;refine (C.o _ vN).mono ?_;rintro e w1 ⟨⟨tv,rfl,S3⟩,Xp,Wu⟩)
 go_ret;exact Tj HF S3 Xp vN Wu
theorem IH (hp:1≤p∧p<9) (hn:1≤n∧n<9) (hq:0≤q∧q<(R.src n.toNat).ss.length) :
  Calls Tryz.prog 110 (Qi (some ⟨b,0,none⟩) (Qa 6 p n q (str nm) sa sl sc ba bl bc)) w (WZ b R ⟨6,p,n,q,nm,ss⟩ w):=by
 have hb:=hR.lt;have HF:Hid (turns R ⟨6,p,n,q,nm,ss⟩ (.slice none 0 0)=begin R ⟨6,p,n,q,nm,ss⟩):=rfl;have C:=Zh (fun (w1:World) (h:Below w w w1)=>DU b R ⟨6,p,n,q,nm,ss⟩ sa ba sl sc bl bc w1 (hR.below h) hn hp hq);clear hR;go_enter Tryz.func110,Tryz.ntmps110;go_wp2_with (go_at_call 138;refine (C.o _ vN).mono ?_;rintro e w1 ⟨⟨tv,rfl,S3⟩,Xp,Wu⟩)
 go_ret;exact Tj HF S3 Xp vN Wu
theorem x9 (hn:1≤n∧n<9) :
  Calls Tryz.prog 110 (Qi (some ⟨b,0,none⟩) (Qa 8 p n q (str nm) sa sl sc ba bl bc)) w (WZ b R ⟨8,p,n,q,nm,ss⟩ w):=by
 obtain ⟨n,rfl⟩:=Rf (show 0≤n by omega);have H8:n<9:=by omega
 have hb:=hR.lt;have HF:Hid (turns R ⟨8,p,n,q,nm,ss⟩ (.slice none 0 0)=mute R n true):=rfl;have C:=Zh (fun (w1:World) (h:Below w w w1)=>kH b R n w1 (hR.below h) H8);exact fA
theorem Ds (hn:1≤n∧n<9) (hw:∀ p,p<9→(R.sub n.toNat p).there=true→0≤(R.sub n.toNat p).want∧(R.sub n.toNat p).want<(R.src n.toNat).ss.length) :
  Calls Tryz.prog 110 (Qi (some ⟨b,0,none⟩) (Qa 9 p n q (str nm) sa sl sc ba bl bc)) w (WZ b R ⟨9,p,n,q,nm,ss⟩ w):=by
 obtain ⟨n,rfl⟩:=Rf (show 0≤n by omega);have H8:n<9:=by omega
 have hb:=hR.lt;have HF:Hid (turns R ⟨9,p,n,q,nm,ss⟩ (.slice none 0 0)=mute R n false):=rfl;have C:=Zh (fun (w1:World) (h:Below w w w1)=>pE b R n w1 (hR.below h) H8 hw);exact fA
theorem LD (hp:1≤p∧p<9) (hn:1≤n∧n<9) :
  Calls Tryz.prog 110 (Qi (some ⟨b,0,none⟩) (Qa 7 p n q (str nm) sa sl sc ba bl bc)) w (WZ b R ⟨7,p,n,q,nm,ss⟩ w):=by
 obtain ⟨p,rfl⟩:=Rf (show 0≤p by omega);have LJ:p<9:=by omega
 obtain ⟨n,rfl⟩:=Rf (show 0≤n by omega);have H8:n<9:=by omega
 have hb:=hR.lt;have HF:Hid (turns R ⟨7,p,n,q,nm,ss⟩ (.slice none 0 0)=([⟨2,p,n,0,0⟩],R.ZP n p U7)):=rfl;have C:=Zh (fun (w1:World) (h:Below w w w1)=>B6 b R p n w1 (hR.below h) H8 LJ);clear hR;go_enter Tryz.func110,Tryz.ntmps110;go_wp2_with (go_at_call 139;refine (C.o _ vN).mono ?_;rintro e w1 ⟨rfl,Xp,Wu⟩;have Xy:=Zh Xp;have T8:=Zh Wu;clear Xp Wu)
 have hz:=T8.o.size;go_ret;refine Tj HF (Yr _ _ 1 _ ([⟨2,p,n,0,0⟩].flatMap Z9) Zd Zi) (Xy.o.alloc _) vN (T8.o.alloc hz _)
theorem A7 (hp:1≤p∧p<9) (hn:1≤n∧n<9) :
  Calls Tryz.prog 110 (Qi (some ⟨b,0,none⟩) (Qa 10 p n q (str nm) sa sl sc ba bl bc)) w (WZ b R ⟨10,p,n,q,nm,ss⟩ w):=by
 obtain ⟨p,rfl⟩:=Rf (show 0≤p by omega);have LJ:p<9:=by omega
 obtain ⟨n,rfl⟩:=Rf (show 0≤n by omega);have H8:n<9:=by omega
 have hb:=hR.lt;obtain ⟨c0,c1,c2⟩:=hR.Hi H8 LJ;have f1:=hR.Yz (54+n*27+p*3+1);have HF:Hid (turns R ⟨10,p,n,q,nm,ss⟩ (.slice none 0 0)=([⟨4,p,n,0,0⟩],R.ZP n p {R.sub n p with ZQ:=true})):=rfl;have KG:=Zh (hR.SN H8 LJ (i:=1) Zo (x:={R.sub n p with ZQ:=true}) (v:= .bool true) (NA _ _));have T8:Hid (Fr w (· = b) w (w.setCell ⟨b,54+n*27+p*3+1,none⟩ (.bool true))):=(Fr.refl _ _ _).setAt _ _;clear hR;go_enter Tryz.func110,Tryz.ntmps110;go_wp2
 go_region
 go_wp2;go_ret;exact Ti HF (by first|exact Row.drew (Yr _ _ 1 _ ([⟨4,p,n,0,0⟩].flatMap Z9) Zd Zi)|exact Yr _ _ 1 _ ([⟨4,p,n,0,0⟩].flatMap Z9) Zd (by simp [size_setCell])) mR (by repeat (first|exact T8.o|refine Fr.drew ?_|refine Fr.alloc ?_ (by simp <;> omega) _))
end
theorem Yt {w w':World} {a:Addr} {v:Value} (hb:Below w w w') (h:w.cell? a=some v):w'.cell? a=some v:=(hb.cell (World.block_lt_of_cell? w _ h)).trans h
theorem Oc {w:World} {a:Addr} {v:Value} (h:w.cell? a=some v) (o:Obj):(w.alloc o).cell? a=some v:=Yt (Z' _ _) h
theorem Vx {w:World} {a:Addr} {v:Value} (h:w.cell? a=some v):w.drew.cell? a=some v:=h
theorem I0 {w:World} {a:Addr} {v:Value} (h:w.drew.drew.cell? a=some v) (o:Obj):(w.alloc o).drew.drew.cell? a=some v:=Oc (w:=w) h o
theorem I1 {w:World} {a:Addr} {v:Value} (h:w.drew.drew.drew.cell? a=some v) (o:Obj):(w.alloc o).drew.drew.drew.cell? a=some v:=Oc (w:=w) h o
theorem cell_grown {w w':World} {row:Option Nat} {a:Addr} {v:Value} (hg:w.grownBy w' row) (h:w.cell? a=some v) (WK:∀ k,row=some k→a.block<k):w'.cell? a=some v:=
 (World.cell?_of_block (hg.block a.block (World.block_lt_of_cell? w _ h) (fun e=>by have:=WK _ e.symm;omega))).trans h
theorem DW {W:World} {m:Nat} (hm:W.heap.size=m) (A:Obj) (cs:Array Value) (e:TypeId) (j:Nat):((W.alloc A).alloc (.cells cs e)).cell? ⟨m+1,j,none⟩=cs[j]?:=by
 subst hm;have:=(V5 W A (.cells cs e)).2;simp only [World.cell?,this];rfl
theorem DV {W:World} {m:Nat} (hm:W.heap.size=m) (B:Obj) (cs:Array Value) (e:TypeId) (j:Nat):((W.alloc (.cells cs e)).alloc B).cell? ⟨m,j,none⟩=cs[j]?:=by
 subst hm;have:=(V5 W (.cells cs e) B).1;simp only [World.cell?,this];rfl
structure TX (b:Nat) (R1:Room) (w w':World):Prop where
 room:ZT w' b R1
 fr:Fr w (· = b) w w'
 size:w.heap.size+1<w'.heap.size
theorem TX.drew {b:Nat} {R1:Room} {w w':World} (h:TX b R1 w w'):TX b R1 w w'.drew:=⟨h.room.drew,h.fr.drew,h.size⟩
theorem TX.alloc {b:Nat} {R1:Room} {w w':World} (h:TX b R1 w w') (o:Obj):TX b R1 w (w'.alloc o):=⟨h.room.alloc o,h.fr.alloc (by have:=h.size;omega) o,by have:=h.size;simp;omega⟩
theorem TX.below {b:Nat} {R1:Room} {w w1 w':World} (h:TX b R1 w w1) (hb:Below w1 w1 w'):TX b R1 w w':=
 ⟨h.room.below hb,h.fr.trans ((Fr.Z7 _ hb).mono (by have:=h.size;omega) (fun _ _ h=>h)),by have:=h.size;have:=hb.size;omega⟩
theorem TX.nz {b:Nat} {R1:Room} {w w':World} (h:TX b R1 w w'.drew.drew) (o:Obj):TX b R1 w (w'.alloc o).drew.drew:=
 h.below ⟨rfl,rfl,rfl,by show w'.heap.size≤(w'.alloc o).heap.size;simp,fun k hk=>Below.heap_alloc _ _ _ hk⟩
theorem TX.nA {b:Nat} {R1:Room} {w w':World} (h:TX b R1 w w'.drew.drew.drew) (o:Obj):TX b R1 w (w'.alloc o).drew.drew.drew:=
 h.below ⟨rfl,rfl,rfl,by show w'.heap.size≤(w'.alloc o).heap.size;simp,fun k hk=>Below.heap_alloc _ _ _ hk⟩
theorem TX.grown {b:Nat} {R1:Room} {w w1 w':World} (h:TX b R1 w w1) (hb:b<w.heap.size) {base:Nat} {v:Value} {m:Nat} {ys:List Value} (ho:w1.ownsRow base 158 5 v m ys) (hg:w1.grownBy w' v.ownBlock) (hB:w.heap.size≤base):TX b R1 w w':=
 ⟨ZT.grown h.room ho hg Zo Zd,h.fr.grown hg (by have:=h.size;omega) (fun k hk=>PO hB (YL ho k hk)),by have:=h.size;have:=hg.size;omega⟩
theorem M5 (w:World) (e:TypeId) (size n m base:Nat) (xs:List Value) (hl:xs.length=n*size) (hn:n≤maxLen) (hm:m=w.heap.size) (hB:base≤m):(w.alloc (.cells xs.toArray e)).ownsRow base e size (.slice (some ⟨m,0,none⟩) n n) n xs:=by
 exact Yt25
theorem TX.zO {b:Nat} {R1:Room} {w w1 w':World} (h:TX b R1 w w1) (hb:b<w.heap.size) {v:Value} {m:Nat} {ys:List Value} (ho:w1.ownsRow (w.heap.size+2) 158 5 v m ys) (hg:Hid (w1.grownBy w' v.ownBlock)) :
  TX b R1 w w'∧∀ a u,a.block≤w.heap.size+1→w1.cell? a=some u→w'.cell? a=some u:=
 ⟨h.grown hb ho hg.o Zo,fun a u ha hu=>cell_grown hg.o hu (fun k hk=>by have:=YL ho k hk;omega)⟩
end Go.Proofs.Rm
namespace Go.Proofs.Rm
open Go.RowKit Go.Proofs.Heap Go.Proofs.Mem
theorem OZ {w:World} {b m i j:Nat} {u v:Value} (hb:b<m) (h:w.cell? ⟨m,j,none⟩=some v):(w.setCell ⟨b,i,none⟩ u).cell? ⟨m,j,none⟩=some v:=by
 rw [World.cell?_setCell_other _ _ _ _ (by intro e;injection e;omega)];exact h
theorem rX {w:World} {b m j i0 i1 i2 i3 i4:Nat} {u0 u1 u2 u3 u4 v:Value} (hb:b<m) (h:w.cell? ⟨m,j,none⟩=some v):(((((w.setCell ⟨b,i0,none⟩ u0).setCell ⟨b,i1,none⟩ u1).setCell ⟨b,i2,none⟩ u2).setCell ⟨b,i3,none⟩ u3).setCell ⟨b,i4,none⟩ u4).cell? ⟨m,j,none⟩=some v:=
 OZ hb (OZ hb (OZ hb (OZ hb (OZ hb h))))
theorem tO {w:World} {b m i0 i1 i2 i3 i4:Nat} {u0 u1 u2 u3 u4:Value} (h:m<w.heap.size):m<(((((w.setCell ⟨b,i0,none⟩ u0).setCell ⟨b,i1,none⟩ u1).setCell ⟨b,i2,none⟩ u2).setCell ⟨b,i3,none⟩ u3).setCell ⟨b,i4,none⟩ u4).heap.size:=by
 simpa [size_setCell] using h
section
variable (b:Nat) (R:Room) (p n q:Int) (nm:List UInt8) (ss:List Int) (sa ba:Option Addr) (sl sc bl bc:Nat) (w:World) (hR:ZT w b R)
include hR
theorem FE (hp:1≤p∧p<9) (hn:1≤n∧n<9) (ZY:XR w (.slice sa sl sc) ss.length (YO ss)) (hl:ss.length≤1000000) :
  Calls Tryz.prog 110 (Qi (some ⟨b,0,none⟩) (Qa 4 p n q (str nm) sa sl sc ba bl bc)) w (WZ b R ⟨4,p,n,q,nm,ss⟩ w):=by
 obtain ⟨p,rfl⟩:=Rf (show 0≤p by omega);have LJ:p<9:=by omega
 obtain ⟨n,rfl⟩:=Rf (show 0≤n by omega);have H8:n<9:=by omega
 have hb:=hR.lt;have Sz:Hid (∀ w1,Below w w w1→ZT w1 b R):=fun w1 h=>hR.below h
 have Ky:Hid (sl=ss.length):=by
  obtain ⟨a',c',e,_⟩:=ZY;injection e
 have HUF:Hid (∀ w1,ZT w1 b R→∀ j,w1.frozen? ⟨b,j,none⟩=false):=fun w1 h j=>h.Yz j
 have C:=Zh (fun (w1:World) (h:Below w w w1)=>Dy (.slice sa sl sc) ss w1 (ZY.below h) hl);have Kz:∀ A B:Obj,Below w w ((w.alloc A).alloc B).drew:=fun A B=>(((YJ _ _).alloc (Zw _) A).alloc Zi B).drew
 clear hR ZY hl;go_enter Tryz.func110,Tryz.ntmps110;go_wp2
 go_region_held3 (fun w'=>w'.cell? ⟨w,1,none⟩=some (.int .i64 p)∧w'.cell? ⟨w,2,none⟩=some (.int .i64 n)∧w'.cell? ⟨w,5,none⟩=some (.slice sa sl sc)∧Fr w (· = b) w w'∧w.heap.size+1<w'.heap.size) (first|(refine ⟨?_,?_,?_,?_,?_⟩ <;> first|with_reducible assumption|(with_reducible refine Fr.drew ?_;with_reducible assumption)|(with_reducible refine Fr.Z7 _ ?_;with_reducible apply Kz)|((with_reducible refine Fr.setAt ?_ _ _);(repeat (with_reducible refine Fr.setAt ?_ _ _));with_reducible assumption)|(with_reducible refine rX hb ?_;with_reducible assumption)|(with_reducible refine tO ?_;with_reducible assumption)|go_keep)|go_keep) (first|(go_at_call 112;go_split_ands;refine Calls.mono (C.o _ (Kz _ _)) ?_;rintro e w2 ⟨⟨cv,rfl,hcr⟩,Y7⟩;have Yq:=Below.trans (Kz _ _) (Y7.mono (gf (Nat.lt_of_succ_lt WS)));have Sb:=Fr.Z7 (· = b) Yq;have sJ:=OS WS Y7.size;obtain ⟨ca,cc,hce,hcx⟩:=id hcr;clear hcx;subst hce;have HCR:=Zh hcr;clear hcr;obtain ⟨s0,s1,s2,s3,s4⟩:=(Sz.o w2 Yq).ML H8;have f0:=HUF.o w2 (Sz.o w2 Yq) (9+n*5);have f1:=HUF.o w2 (Sz.o w2 Yq) (9+n*5+1);have f2:=HUF.o w2 (Sz.o w2 Yq) (9+n*5+2);have f3:=HUF.o w2 (Sz.o w2 Yq) (9+n*5+3);have f4:=HUF.o w2 (Sz.o w2 Yq) (9+n*5+4);have k1:=Yt (a:=⟨w,1,none⟩) Y7 WS;have k2:=Yt (a:=⟨w,2,none⟩) Y7 WS;have k5:=Yt (a:=⟨w,5,none⟩) Y7 WS))
 go_wp2;go_ret;have HF:Hid (turns R ⟨4,p,n,q,nm,ss⟩ (.slice ca ss.length cc)=([],R.Y5 n ⟨true,n,p,.slice ca ss.length cc,ss,false⟩)):=rfl;exact Ti HF (Row.nil _ _) ((Sz.o w2 Yq).Y5 H8 ⟨true,n,p,.slice ca ss.length cc,ss,false⟩ HCR.o) (((((Sb.setAt _ _).setAt _ _).setAt _ _).setAt _ _).setAt _ _)
end
section
variable (b:Nat) (R:Room) (p n q:Int) (nm:List UInt8) (ss:List Int) (sa ba:Option Addr) (sl sc bl bc:Nat) (w:World) (hR:ZT w b R)
include hR
theorem Dq (hp:1≤p∧p<9) (hn:1≤n∧n<9) (hw:0≤(R.sub n.toNat p.toNat).want∧(R.sub n.toNat p.toNat).want<(R.src n.toNat).ss.length) :
  Calls Tryz.prog 110 (Qi (some ⟨b,0,none⟩) (Qa 11 p n q (str nm) sa sl sc ba bl bc)) w (WZ b R ⟨11,p,n,q,nm,ss⟩ w):=by
 obtain ⟨p,rfl⟩:=Rf (show 0≤p by omega);have LJ:p<9:=by omega
 obtain ⟨n,rfl⟩:=Rf (show 0≤n by omega);have H8:n<9:=by omega
 have hb:=hR.lt;obtain ⟨c0,c1,c2⟩:=hR.Hi H8 LJ;have fz:=hR.Yz (54+n*27+p*3+1);have HF:Hid (turns R ⟨11,p,n,q,nm,ss⟩ (.slice none 0 0)=(⟨5,p,n,0,0⟩ :: waits (R.ZP n p {R.sub n p with ZQ:=false}) p n,R.ZP n p {R.sub n p with ZQ:=false})):=rfl;have KG:=Zh (hR.SN H8 LJ (i:=1) Zo (x:={R.sub n p with ZQ:=false}) (v:= .bool false) (NA _ _));have T8:Hid (Fr w (· = b) w (w.setCell ⟨b,54+n*27+p*3+1,none⟩ (.bool false))):=(Fr.refl _ _ _).setAt _ _
 have CW:Hid (∀ w1,ZT w1 b (R.ZP n p {R.sub n p with ZQ:=false})→Calls Tryz.prog 141 (Qu (some ⟨b,0,none⟩) p n) w1 fun e w'=>(∃ v,e = .returned v∧YF w' v (waits (R.ZP n p {R.sub n p with ZQ:=false}) p n))∧Below w1 w1 w'):=
  fun w1 h=>Ku b _ p n w1 h H8 LJ (by rw [Wf];exact hw)
 have mH:(waits (R.ZP n p {R.sub n p with ZQ:=false}) p n).length≤1:=by unfold waits;split <;> simp
 clear hR hw;have HTX:Hid (∀ B1 B2:Obj,TX b (R.ZP n p {R.sub n p with ZQ:=false}) w (((w.setCell ⟨b,54+n*27+p*3+1,none⟩ (.bool false)).alloc B1).alloc B2).drew):=fun B1 B2=>⟨((KG.o.alloc _).alloc _).drew,((T8.o.alloc Zi _).alloc Zi _).drew,by simp⟩
 generalize waits (R.ZP n p {R.sub n p with ZQ:=false}) p n=W at *
 generalize R.ZP n p {R.sub n p with ZQ:=false}=R1 at *
 go_enter Tryz.func110,Tryz.ntmps110;go_wp2
 go_region
 go_wp2;have htx:=HTX.o
 go_region_held3 (fun w'=>w'.cell? ⟨w.heap.size+1,0,none⟩=some (.int .i64 5)∧w'.cell? ⟨w.heap.size+1,1,none⟩=some (.int .i64 p)∧w'.cell? ⟨w.heap.size+1,2,none⟩=some (.int .i64 n)∧w'.cell? ⟨w.heap.size+1,3,none⟩=some (.int .i64 0)∧w'.cell? ⟨w.heap.size+1,4,none⟩=some (.int .u32 0)∧w'.cell? ⟨w,1,none⟩=some (.int .i64 p)∧w'.cell? ⟨w,2,none⟩=some (.int .i64 n)∧TX b R1 w w') ((go_split_ands;((repeat' apply And.intro) <;> first|with_reducible assumption|((with_reducible apply Vx);with_reducible assumption)|(with_reducible apply TX.drew;with_reducible assumption)|(with_reducible apply TX.drew;with_reducible apply htx)|(with_reducible apply Oc;with_reducible assumption)|(with_reducible apply I0;with_reducible assumption)|(with_reducible apply I1;with_reducible assumption)|(with_reducible apply TX.alloc;with_reducible assumption)|(with_reducible apply TX.nz;with_reducible assumption)|(with_reducible apply TX.nA;with_reducible assumption)|((with_reducible apply Vx);(with_reducible apply Vx);(with_reducible refine (DW (size_setCell _ _ _) _ _ _ _).trans ?_);rfl)|((with_reducible apply Vx);(with_reducible apply Vx);(with_reducible refine (DV (size_setCell _ _ _) _ _ _ _).trans ?_);rfl)|go_keep))) (first|(go_at_call 141;go_split_ands;refine Calls.mono (CW.o _ (TX.room WS)) ?_;rintro e w2 ⟨⟨tv,rfl,S3⟩,Y7⟩;have FK:=Zh S3;clear S3;have k0:=Yt (a:=⟨w.heap.size+1,0,none⟩) Y7 WS;have k1:=Yt (a:=⟨w.heap.size+1,1,none⟩) Y7 WS;have k2:=Yt (a:=⟨w.heap.size+1,2,none⟩) Y7 WS;have k3:=Yt (a:=⟨w.heap.size+1,3,none⟩) Y7 WS;have k4:=Yt (a:=⟨w.heap.size+1,4,none⟩) Y7 WS;have k5:=Yt (a:=⟨w,1,none⟩) Y7 WS;have k6:=Yt (a:=⟨w,2,none⟩) Y7 WS;have tx2:=TX.below WS Y7)|(go_split_ands;refine Zp Zr (.tmp 105) (.tmp 111) 98 Zr (w.heap.size+2) XM _ 1 ([YB.mk 5 p n 0 0].flatMap Z9) Zr ?_ _ W.length (W.flatMap Z9) Zr ?_ (VT _) (X_ _) Zo Zo ?_ ?_;(first|exact M5 _ _ 5 1 _ _ ([YB.mk 5 p n 0 0].flatMap Z9) rfl Zd rfl (by have:=tx2.size;omega)|(exact Zx (by repeat (first|exact QY _ _ 5 1 _ ([YB.mk 5 p n 0 0].flatMap Z9) rfl Zd Zi|refine Xd ?_)) Y7));(first|exact FK.o|exact FK.o.below (Z' _ _));(have hs:=TX.size WS;omega);intro v' w3 HO HG;obtain ⟨tx3,zS⟩:=TX.zO WS hb (by first|exact M5 _ _ 5 1 _ _ ([YB.mk 5 p n 0 0].flatMap Z9) rfl Zd rfl (by have:=tx2.size;omega)|(exact Zx (by repeat (first|exact QY _ _ 5 1 _ ([YB.mk 5 p n 0 0].flatMap Z9) rfl Zd Zi|refine Xd ?_)) Y7)) HG;have g0:=zS ⟨w.heap.size+1,0,none⟩ _ Zi WS;have g1:=zS ⟨w.heap.size+1,1,none⟩ _ Zi WS;have g2:=zS ⟨w.heap.size+1,2,none⟩ _ Zi WS;have g3:=zS ⟨w.heap.size+1,3,none⟩ _ Zi WS;have g4:=zS ⟨w.heap.size+1,4,none⟩ _ Zi WS;have g5:=zS ⟨w,1,none⟩ _ Zi WS;have g6:=zS ⟨w,2,none⟩ _ Zi WS;clear zS))
 all_goals
  go_wp2;go_ret;have ZY:=Row.Z6 HO.o;rw [Nat.add_comm] at ZY;exact Ti HF ZY tx3.room tx3.fr
end
end Go.Proofs.Rm
namespace Go.Proofs.Rm
open Go.RowKit Go.Proofs.Heap Go.Proofs.Mem
section
variable (b:Nat) (R:Room) (p n q:Int) (nm:List UInt8) (ss:List Int) (sa ba:Option Addr) (sl sc bl bc:Nat) (w:World) (hR:ZT w b R)
include hR
theorem Dr (hp:1≤p∧p<9) (hn:1≤n∧n<9) (hw:0≤q∧q<(R.src n.toNat).ss.length) :
  Calls Tryz.prog 110 (Qi (some ⟨b,0,none⟩) (Qa 12 p n q (str nm) sa sl sc ba bl bc)) w (WZ b R ⟨12,p,n,q,nm,ss⟩ w):=by
 obtain ⟨p,rfl⟩:=Rf (show 0≤p by omega);have LJ:p<9:=by omega
 obtain ⟨n,rfl⟩:=Rf (show 0≤n by omega);have H8:n<9:=by omega
 have hb:=hR.lt;obtain ⟨c0,c1,c2⟩:=hR.Hi H8 LJ;have fz:=hR.Yz (54+n*27+p*3+2);have HF:Hid (turns R ⟨12,p,n,q,nm,ss⟩ (.slice none 0 0)=(⟨8,p,n,q,0⟩ :: waits (R.ZP n p {R.sub n p with want:=q}) p n,R.ZP n p {R.sub n p with want:=q})):=rfl;have KG:=Zh (hR.SN H8 LJ (i:=2) Zo (x:={R.sub n p with want:=q}) (v:= .int .i64 q) (Dn _ _));have T8:Hid (Fr w (· = b) w (w.setCell ⟨b,54+n*27+p*3+2,none⟩ (.int .i64 q))):=(Fr.refl _ _ _).setAt _ _
 have CW:Hid (∀ w1,ZT w1 b (R.ZP n p {R.sub n p with want:=q})→Calls Tryz.prog 141 (Qu (some ⟨b,0,none⟩) p n) w1 fun e w'=>(∃ v,e = .returned v∧YF w' v (waits (R.ZP n p {R.sub n p with want:=q}) p n))∧Below w1 w1 w'):=
  fun w1 h=>Ku b _ p n w1 h H8 LJ (by rw [Wf];exact hw)
 have mH:(waits (R.ZP n p {R.sub n p with want:=q}) p n).length≤1:=by unfold waits;split <;> simp
 clear hR hw;have HTX:Hid (∀ B1 B2:Obj,TX b (R.ZP n p {R.sub n p with want:=q}) w (((w.setCell ⟨b,54+n*27+p*3+2,none⟩ (.int .i64 q)).alloc B1).alloc B2).drew.drew):=fun B1 B2=>⟨((KG.o.alloc _).alloc _).drew.drew,((T8.o.alloc Zi _).alloc Zi _).drew.drew,by simp⟩
 generalize waits (R.ZP n p {R.sub n p with want:=q}) p n=W at *
 generalize R.ZP n p {R.sub n p with want:=q}=R1 at *
 go_enter Tryz.func110,Tryz.ntmps110;go_wp2
 go_region
 go_wp2
 go_region
 go_wp2;have htx:=HTX.o
 go_region_held3 (fun w'=>w'.cell? ⟨w.heap.size+1,0,none⟩=some (.int .i64 8)∧w'.cell? ⟨w.heap.size+1,1,none⟩=some (.int .i64 p)∧w'.cell? ⟨w.heap.size+1,2,none⟩=some (.int .i64 n)∧w'.cell? ⟨w.heap.size+1,3,none⟩=some (.int .i64 q)∧w'.cell? ⟨w.heap.size+1,4,none⟩=some (.int .u32 0)∧w'.cell? ⟨w,1,none⟩=some (.int .i64 p)∧w'.cell? ⟨w,2,none⟩=some (.int .i64 n)∧TX b R1 w w') ((go_split_ands;((repeat' apply And.intro) <;> first|with_reducible assumption|((with_reducible apply Vx);with_reducible assumption)|(with_reducible apply TX.drew;with_reducible assumption)|(with_reducible apply TX.drew;with_reducible apply htx)|(with_reducible apply Oc;with_reducible assumption)|(with_reducible apply I0;with_reducible assumption)|(with_reducible apply I1;with_reducible assumption)|(with_reducible apply TX.alloc;with_reducible assumption)|(with_reducible apply TX.nz;with_reducible assumption)|(with_reducible apply TX.nA;with_reducible assumption)|((with_reducible apply Vx);(with_reducible apply Vx);(with_reducible apply Vx);(with_reducible refine (DW (size_setCell _ _ _) _ _ _ _).trans ?_);rfl)|((with_reducible apply Vx);(with_reducible apply Vx);(with_reducible apply Vx);(with_reducible refine (DV (size_setCell _ _ _) _ _ _ _).trans ?_);rfl)|go_keep))) (first|(go_at_call 141;go_split_ands;refine Calls.mono (CW.o _ (TX.room WS)) ?_;rintro e w2 ⟨⟨tv,rfl,S3⟩,Y7⟩;have FK:=Zh S3;clear S3;have k0:=Yt (a:=⟨w.heap.size+1,0,none⟩) Y7 WS;have k1:=Yt (a:=⟨w.heap.size+1,1,none⟩) Y7 WS;have k2:=Yt (a:=⟨w.heap.size+1,2,none⟩) Y7 WS;have k3:=Yt (a:=⟨w.heap.size+1,3,none⟩) Y7 WS;have k4:=Yt (a:=⟨w.heap.size+1,4,none⟩) Y7 WS;have k5:=Yt (a:=⟨w,1,none⟩) Y7 WS;have k6:=Yt (a:=⟨w,2,none⟩) Y7 WS;have tx2:=TX.below WS Y7)|(go_split_ands;refine Zp Zr (.tmp 132) (.tmp 138) 98 Zr (w.heap.size+2) XM _ 1 ([YB.mk 8 p n q 0].flatMap Z9) Zr ?_ _ W.length (W.flatMap Z9) Zr ?_ (VT _) (X_ _) Zo Zo ?_ ?_;(first|exact M5 _ _ 5 1 _ _ ([YB.mk 8 p n q 0].flatMap Z9) rfl Zd rfl (by have:=tx2.size;omega)|(exact Zx (by repeat (first|exact QY _ _ 5 1 _ ([YB.mk 8 p n q 0].flatMap Z9) rfl Zd Zi|refine Xd ?_)) Y7));(first|exact FK.o|exact FK.o.below (Z' _ _));(have hs:=TX.size WS;omega);intro v' w3 HO HG;obtain ⟨tx3,zS⟩:=TX.zO WS hb (by first|exact M5 _ _ 5 1 _ _ ([YB.mk 8 p n q 0].flatMap Z9) rfl Zd rfl (by have:=tx2.size;omega)|(exact Zx (by repeat (first|exact QY _ _ 5 1 _ ([YB.mk 8 p n q 0].flatMap Z9) rfl Zd Zi|refine Xd ?_)) Y7)) HG;have g0:=zS ⟨w.heap.size+1,0,none⟩ _ Zi WS;have g1:=zS ⟨w.heap.size+1,1,none⟩ _ Zi WS;have g2:=zS ⟨w.heap.size+1,2,none⟩ _ Zi WS;have g3:=zS ⟨w.heap.size+1,3,none⟩ _ Zi WS;have g4:=zS ⟨w.heap.size+1,4,none⟩ _ Zi WS;have g5:=zS ⟨w,1,none⟩ _ Zi WS;have g6:=zS ⟨w,2,none⟩ _ Zi WS;clear zS))
 all_goals
  go_wp2;go_ret;have ZY:=Row.Z6 HO.o;rw [Nat.add_comm] at ZY;exact Ti HF ZY tx3.room tx3.fr
end
open Go.Proofs.NM (may key Xz)
theorem tR (b:Nat) (R:Room) (o:Op) (sa ba:Option Addr) (sc bl bc:Nat) (w:World) (hR:ZT w b R) (hI:Inv R) (ok:Ok R o)
  (ZY:XR w (.slice sa o.ZK.length sc) o.ZK.length (YO o.ZK)) :
  Calls Tryz.prog 110 (Qi (some ⟨b,0,none⟩) (Jo o sa o.ZK.length sc ba bl bc)) w (WZ b R o w):=by
 have Wq:=ok;obtain ⟨kd,p,n,q,nm,ss⟩:=o;obtain ⟨hk,hp,hj,ht,hs,wI,ki,L9⟩:=ok;dsimp only at *
 by_cases k2:kd=2
 ·subst k2;exact x8 b R p n q nm ss sa ba _ sc bl bc w hR hp
 by_cases k3:kd=3
 ·subst k3;exact A6 b R p n q nm ss sa ba _ sc bl bc w hR hp
 have hn:=hs Zo;by_cases k4:kd=4
 ·subst k4;have h2:=(G8 (wI rfl)).2.1;dsimp only at h2;exact FE b R p n q nm ss sa ba _ sc bl bc w hR hp hn ZY Zo
 have L9:=L9 Zo;have hb:=fun q=>hI.Y9 n.toNat q
 by_cases k5:kd=5
 ·subst k5;exact II b R p n q nm ss sa ba _ sc bl bc w hR hn
 by_cases k6:kd=6
 ·subst k6;exact IH b R p n q nm ss sa ba _ sc bl bc w hR hp hn (Pd (OT L9 rfl).2.2)
 by_cases k7:kd=7
 ·subst k7;exact LD b R p n q nm ss sa ba _ sc bl bc w hR hp hn
 by_cases k8:kd=8
 ·subst k8;exact x9 b R p n q nm ss sa ba _ sc bl bc w hR hn
 by_cases k9:kd=9
 ·subst k9;exact Ds b R p n q nm ss sa ba _ sc bl bc w hR hn fun p' _ ht=>⟨(hb p' ht).2.2.2.2.2.2.2.1,(hb p' ht).2.2.2.2.2.2.2.2⟩
 obtain ⟨h1,_,_,h4⟩:=TD L9 (by right;show 10≤kd;omega);dsimp only at h1 h4;by_cases k10:kd=10
 ·subst k10;exact A7 b R p n q nm ss sa ba _ sc bl bc w hR hp hn
 by_cases k11:kd=11
 ·subst k11;exact Dq b R p n q nm ss sa ba _ sc bl bc w hR hp hn ⟨(hb _ h1).2.2.2.2.2.2.2.1,(hb _ h1).2.2.2.2.2.2.2.2⟩
 obtain rfl:kd=12:=by omega
 exact Dr b R p n q nm ss sa ba _ sc bl bc w hR hp hn (Pd (h4 rfl).1)
def FP (b:Nat) (R:Room) (o:Op) (w:World) (e:Ending) (w':World):Prop:=
 ∃ v sv,e = .returned (.tuple #[v,.int .i64 (Wm R o sv).2])∧YF w' v (Wm R o sv).1.1∧ZT w' b (Wm R o sv).1.2∧Fr w (· = b) w w'
theorem B0 {b:Nat} {R:Room} {o:Op} {w w':World} {x:Int} (hx:Hid (X4 R o=x)) (WK:x≠0) (h2:ZT w' b R) (h3:Fr w (· = b) w w'):FP b R o w (.returned (.tuple (Q7 none 0 0 x))) w':=by
 have h:∀ sv,Wm R o sv=(([],R),x):=fun sv=>by unfold Wm;rw [hx.o,ZR WK]
 exact ⟨.slice none 0 0,.slice none 0 0,by rw [h],by rw [h];exact Row.nil _ _,by rw [h];exact h2,h3⟩
theorem BZ {b:Nat} {R:Room} {o:Op} {w w1 w':World} {v:Value} (hx:Hid (X4 R o=0)) (hb:Below w w w1) (h:WZ b R o w1 (.returned v) w'):FP b R o w (.returned (.tuple #[v,.int .i64 0])) w':=by
 obtain ⟨v',sv,he,h1,h2,h3⟩:=h;injection he with he
 subst he;have hd:Wm R o sv=(turns R o sv,0):=by unfold Wm;rw [hx.o];simp
 exact ⟨v,sv,by rw [hd],by rw [hd];exact h1,by rw [hd];exact h2,(Fr.Z7 _ hb).trans (h3.mono hb.size (fun _ _ h=>h))⟩
theorem FD {b:Nat} {R:Room} {o:Op} {w w':World} {e:Ending} (h:WZ b R o w e w'):∃ v,e = .returned v∧WZ b R o w (.returned v) w':=by
 obtain ⟨v,sv,he,h1⟩:=h;exact ⟨v,he,v,sv,rfl,h1⟩
theorem JP {R:Room} (hI:Inv R):∀ p,(R.names p).length<9223372036854775807:=by
 intro p;by_cases h:R.names p=[]
 ·rw [h];decide
 ·have:=NM.uT (hI.nameAt p h).2;omega
theorem lQ (b:Nat) (R:Room) (o:Op) (sa ba:Option Addr) (sc bl bc:Nat) (w:World) (hR:ZT w b R) (hI:Inv R) (hT:Xz w) (UT:o.name.length<9223372036854775807)
  (ZY:XR w (.slice sa o.ZK.length sc) o.ZK.length (YO o.ZK)) :
  Calls Tryz.prog 77 (Qi (some ⟨b,0,none⟩) (Jo o sa o.ZK.length sc ba bl bc)) w (FP b R o w):=by
 have CW:=Zh (fun (w1:World) (h:Below w w w1)=>tW b R o sa ba sc bl bc w1 (hR.below h) (Utf8Tabs_below hT h) UT (JP hI) (ZY.below h));have CT:=Zh (fun (w1:World) (h:Below w w w1) (ok:X4 R o=0)=>tR b R o sa ba sc bl bc w1 (hR.below h) hI (Pw ok) (ZY.below h));have hb:=hR.lt;have HRB:Hid (∀ w1,Below w w w1→ZT w1 b R):=fun w1 h=>hR.below h
 have HDW:=Zh (fun (w':World) x=>@B0 b R o w w' x);have HDR:=Zh (fun (w1 w':World) v=>@BZ b R o w w1 w' v);have HTV:=Zh (fun (w1 w':World) e=>@FD b R o w1 w' e);clear hR hI hT UT ZY;obtain ⟨kd,p,n,q,nm,ss⟩:=o;dsimp only at *
 generalize FP b R ⟨kd,p,n,q,nm,ss⟩ w=DP at *
 generalize hwx:X4 R ⟨kd,p,n,q,nm,ss⟩=x at *
 have HX:=Zh hwx;clear hwx;by_cases hx:x=0
 ·subst hx;go_enter Tryz.func77,Tryz.ntmps77;go_wp2_with fail
  refine (CW.o _ (Z' _ _)).mono ?_;rintro e w1 ⟨rfl,YY⟩;have c0:=Yt (a:=⟨w,0,none⟩) YY (v:= .int .i64 kd) Zi;have c1:=Yt (a:=⟨w,1,none⟩) YY (v:= .int .i64 p) Zi;have c2:=Yt (a:=⟨w,2,none⟩) YY (v:= .int .i64 n) Zi;have c3:=Yt (a:=⟨w,3,none⟩) YY (v:= .int .i64 q) Zi;have c4:=Yt (a:=⟨w,4,none⟩) YY (v:= .string (str nm)) Zi;have c5:=Yt (a:=⟨w,5,none⟩) YY (v:= .slice sa ss.length sc) Zi;have c6:=Yt (a:=⟨w,6,none⟩) YY (v:= .slice ba bl bc) Zi;have W8:Below w w w1:=(Z' _ _).trans (YY.mono Zi);clear YY;go_wp2_with fail
  refine (CT.o _ W8 trivial).mono ?_;intro e w2 hp;obtain ⟨tv,rfl,hp⟩:=HTV.o _ _ _ hp;have HP:=Zh hp;clear hp;go_wp2_with fail
  exact HDR.o _ _ _ (by first|exact rfl|exact trivial) W8 HP.o
 ·have uE:(x != 0)=true:=by rw [RQ];exact hx
  have HXN:=Zh hx;clear hx;go_enter Tryz.func77,Tryz.ntmps77;go_wp2_with fail
  refine (CW.o _ (Z' _ _)).mono ?_;rintro e w1 ⟨rfl,YY⟩;have W8:Below w w w1:=(Z' _ _).trans (YY.mono Zi);clear YY;go_wp2_with fail
  exact HDW.o _ _ (by first|exact rfl|exact trivial) HXN.o (HRB.o _ W8) (Fr.Z7 _ W8)
end Go.Proofs.Rm
namespace Go.Proofs.Rm
open Go.RowKit Go.Proofs.Heap Go.Proofs.Mem
theorem qj:∀ j,j<297→(((List.range 297).map (WO empty)).toArray)[j]?=some (WO empty j):=by
 intro j hj;simp [hj]
theorem ui (w:World):Calls Tryz.prog 69 #[] w fun e w'=>e = .returned (.pointer (some ⟨w,0,none⟩))∧ZT w' w.heap.size empty∧Below w w w':=by
 go_enter Tryz.func69,Tryz.ntmps69;go_wp2;go_ret;have HZ:Tryz.zeroCells152=((List.range 297).map (WO empty)).toArray:=by kernel_rfl
 refine ⟨rfl,⟨⟨_,Z8 _ _,by rw [HZ];simp,fun j hj=>by rw [HZ];exact qj j hj⟩,fun n _=>Row.nil _ _⟩,Z' _ _⟩
theorem uY (R:Room) (x:Int):∀ k n:Nat,n+k≤9→0≤(RZ R x k n).1∧(RZ R x k n).1<9
 | 0,_,_=>by simp [RZ]
 | k+1,n,h=>by
  unfold RZ;split
  ·dsimp only;omega
  ·exact uY R x k (n+1) Zo
theorem of_lt (R:Room) (x:Int):0≤(of R x).1∧(of R x).1<9:=uY R x 9 0 Zo
theorem yH (b:Nat) (R:Room) (p x:Int) (w:World) (hR:ZT w b R) :
  Calls Tryz.prog 132 (Ja (some ⟨b,0,none⟩) p x) w fun e w'=>
   (∃ v,e = .returned (.tuple #[v,.int .i64 (YS R p x).2])∧YF w' v (YS R p x).1.1)∧ZT w' b (YS R p x).1.2∧Fr w (· = b) w w':=by
 have hb:=hR.lt;have CO:=Zh (JZ b R x w hR);have PV:=of_lt R x;have HG:Hid (YS R p x=if !(of R x).2.2 || !Y_ R p || decide ((R.src (of R x).1.toNat).own≠p) then (([],R),8) else (gone R (of R x).1.toNat,0)):=rfl;have HR:Hid (∀ w1,Below w w w1→ZT w1 b R):=fun w1 h=>hR.below h
 clear hR;generalize of R x=o at *
 obtain ⟨o1,o2,o3⟩:=o;dsimp only at *
 obtain ⟨n,rfl⟩:=Rf PV.1;rw [Wz] at HG;have hn:n<9:=by omega
 cases o3
 ·have HF:Hid (YS R p x=(([],R),8)):=by show _=_;rw [HG.o];rfl
  go_enter Tryz.func132,Tryz.ntmps132;go_wp2_with (go_at_call 127;refine CO.o.mono ?_;rintro e w1 ⟨rfl,YY⟩)
  exact bG
 have CJ:Hid (∀ w1,Below w w w1→_):=fun w1 h=>Ty b R p w1 (HR.o w1 h)
 have CG:Hid (∀ w1,Below w w w1→_):=fun w1 h=>Gr b R n w1 (HR.o w1 h) hn
 have HSC:Hid (∀ w1,Below w w w1→w1.cell? ⟨b,9+n*5+1+1,none⟩=some (.int .i64 (R.src n).own)):=fun w1 h=>((HR.o w1 h).ML hn).2.2.1
 cases hj:Y_ R p
 ·have HF:Hid (YS R p x=(([],R),8)):=by show _=_;rw [HG.o,hj];rfl
  rw [hj] at CJ;clear hj;go_enter Tryz.func132,Tryz.ntmps132;go_wp2_with (first|(go_at_call 127;refine CO.o.mono ?_;rintro e w1 ⟨rfl,YY⟩)|(go_at_call 80;refine (CJ.o _ YY).mono ?_;rintro e w2 ⟨rfl,rfl⟩))
  exact bG
 rw [hj] at CJ HG;clear hj;by_cases ho:(R.src n).own=p
 ·have HF:Hid (YS R p x=(gone R n,0)):=by show _=_;rw [HG.o];simp [ho]
  rw [ho] at HSC;clear ho HG;generalize gone R n=G at *
  go_enter Tryz.func132,Tryz.ntmps132;go_wp2_with (first|(go_at_call 127;refine CO.o.mono ?_;rintro e w1 ⟨rfl,YY⟩;have hsc:=HSC.o _ YY)|(go_at_call 80;refine (CJ.o _ YY).mono ?_;rintro e w2 ⟨rfl,rfl⟩)|(go_at_call 137;refine (CG.o _ YY).mono ?_;rintro e w2 ⟨⟨tv,rfl,S3⟩,Xp,Wu⟩))
  go_ret2
  rw [HF.o];exact ⟨⟨_,rfl,S3⟩,Xp,(Fr.Z7 _ YY).trans (Wu.mono YY.size (fun _ _ h=>h))⟩
 ·have HF:Hid (YS R p x=(([],R),8)):=by show _=_;rw [HG.o];simp [ho]
  have uE:((R.src n).own != p)=true:=by rw [RQ];exact ho
  clear ho HG;go_enter Tryz.func132,Tryz.ntmps132;go_wp2_with (first|(go_at_call 127;refine CO.o.mono ?_;rintro e w1 ⟨rfl,YY⟩;have hsc:=HSC.o _ YY)|(go_at_call 80;refine (CJ.o _ YY).mono ?_;rintro e w2 ⟨rfl,rfl⟩))
  exact bG
structure Vc where
 num:Int
 name:List UInt8
deriving DecidableEq
structure Wl where
 num:Int
 own:Int
 ss:List Int
 ZE:Bool
deriving DecidableEq
structure Va where
 peer:Int
 source:Int
 want:Int
 ZQ:Bool
deriving DecidableEq
structure ZN where
 ZA:List Vc
 Yg:List Wl
 Z0:List Va
deriving DecidableEq
def Yx (x:Vc):List Value:=(Q3 x.num (str x.name))
def Zq (x:Wl × Value):List Value:=[.int .i64 x.1.num,.int .i64 x.1.own,x.2,.bool x.1.ZE]
def Zt (x:Va):List Value:=(Ql x.peer x.source x.want x.ZQ)
structure IW (w:World) (pv sv uv:Value) (T:ZN):Prop where
 ZA:Row w 103 pv T.ZA.length (T.ZA.flatMap Yx)
 Yg:∃ ms:List (Wl × Value),ms.map Prod.fst=T.Yg∧Row w 108 sv ms.length (ms.flatMap Zq)∧∀ m∈ms,Row w 66 m.2 m.1.ss.length (YO m.1.ss)
 Z0:Row w 105 uv T.Z0.length (T.Z0.flatMap Zt)
theorem IW.fr {B:Nat} {S:Nat→Prop} {w w':World} {pv sv uv:Value} {T:ZN} (h:IW w pv sv uv T) (hf:Fr B S w w') (hB:w.heap.size≤B)
  (h1:∀ k c fr,S k→w.heap[k]?≠some (.cells c 103 fr)) (h2:∀ k c fr,S k→w.heap[k]?≠some (.cells c 108 fr)) (h3:∀ k c fr,S k→w.heap[k]?≠some (.cells c 105 fr)) (h4:∀ k c fr,S k→w.heap[k]?≠some (.cells c 66 fr)):IW w' pv sv uv T:=by
 obtain ⟨a,⟨ms,b1,b2,b3⟩,c⟩:=h;exact ⟨a.fr hf hB h1,⟨ms,b1,b2.fr hf hB h2,fun m hm=>(b3 m hm).fr hf hB h4⟩,c.fr hf hB h3⟩
theorem IW.below {w w':World} {pv sv uv:Value} {T:ZN} (h:IW w pv sv uv T) (hb:Below w w w'):IW w' pv sv uv T:=
 h.fr (Fr.Z7 PN hb) (Zw _) (fun _ _ _ h=>h.elim) (fun _ _ _ h=>h.elim) (fun _ _ _ h=>h.elim) (fun _ _ _ h=>h.elim)
theorem TQ:Elem Tryz.prog 47 103 2 24:=⟨Tryz.underlying47,⟨.agg (Q3 0 ⟨#[]⟩),by kernel_rfl,rfl⟩,by decide⟩
theorem UW:Elem Tryz.prog 48 108 4 48:=⟨Tryz.underlying48,⟨.agg (Qq 0 0 none 0 0 false),by kernel_rfl,rfl⟩,by decide⟩
theorem Uh:Elem Tryz.prog 49 105 4 32:=⟨Tryz.underlying49,⟨.agg (Ql 0 0 0 false),by kernel_rfl,rfl⟩,by decide⟩
end Go.Proofs.Rm
namespace Go.Proofs.Rm
open Go.RowKit Go.Proofs.Heap Go.Proofs.Mem
theorem WE {base:Nat} {e:TypeId} {size:Nat} {v:Value} {n:Nat} {xs:List Value} {w:World} (h:w.ownsRow base e size v n xs):∃ a c,v = .slice a n c:=by
 obtain ⟨_,h⟩:=h;rcases h with ⟨rfl,rfl⟩|⟨g,cap,cur,rfl,_⟩
 ·exact ⟨_,_,rfl⟩
 ·exact ⟨_,_,rfl⟩
theorem set3 {w:World} {b:Nat} {u0 u1 u2 v0 v1 v2:Value} (h0:w.cell? ⟨b,0,none⟩=some u0) (h1:w.cell? ⟨b,1,none⟩=some u1) (h2:w.cell? ⟨b,2,none⟩=some u2) :
  (((w.setCell ⟨b,0,none⟩ v0).setCell ⟨b,1,none⟩ v1).setCell ⟨b,2,none⟩ v2).cell? ⟨b,0,none⟩=some v0∧(((w.setCell ⟨b,0,none⟩ v0).setCell ⟨b,1,none⟩ v1).setCell ⟨b,2,none⟩ v2).cell? ⟨b,1,none⟩=some v1∧(((w.setCell ⟨b,0,none⟩ v0).setCell ⟨b,1,none⟩ v1).setCell ⟨b,2,none⟩ v2).cell? ⟨b,2,none⟩=some v2:=by
 have e01:(⟨b,0,none⟩:Addr)≠⟨b,1,none⟩:=by simp
 have e02:(⟨b,0,none⟩:Addr)≠⟨b,2,none⟩:=by simp
 have e12:(⟨b,1,none⟩:Addr)≠⟨b,2,none⟩:=by simp
 refine ⟨?_,?_,?_⟩
 ·rw [World.cell?_setCell_other _ _ _ _ Zi,World.cell?_setCell_other _ _ _ _ Zi,qC _ _ _ h0]
 ·rw [World.cell?_setCell_other _ _ _ _ Zi,qC (u:=u1)];rw [World.cell?_setCell_other _ _ _ _ Zi];exact h1
 ·rw [qC (u:=u2)];rw [World.cell?_setCell_other _ _ _ _ Zi,World.cell?_setCell_other _ _ _ _ Zi];exact h2
section
end
theorem Li (x:Vc):∀ u∈Yx x,u.oneCell'=true:=by
 intro u hu;simp only [Yx,KN,List.mem_nil_iff,or_false] at hu;rcases hu with rfl|rfl <;> rfl
theorem LC (x:Va):∀ u∈Zt x,u.oneCell'=true:=by
 intro u hu;simp only [Zt,KN,List.mem_nil_iff,or_false] at hu;rcases hu with rfl|rfl|rfl|rfl <;> rfl
theorem LB (x:Wl) (a:Option Addr) (n c:Nat):∀ u∈Zq (x,.slice a n c),u.oneCell'=true:=by
 intro u hu;simp only [Zq,KN,List.mem_nil_iff,or_false] at hu;rcases hu with rfl|rfl|rfl|rfl <;> rfl
end Go.Proofs.Rm
namespace Go.Proofs.Frame
open Go.RowKit Go.WideShapes Go.ChangeShapes
section
variable {H:Type} {enc:TypeId × Value→H} {P:Program}
theorem MF (hl:laidOutB P=true) {W W':World} {sp':Nat→Bool} (hb:Below W W W'):∀ {ts:List TypeId} {vs:List Value} {ds:List (DataW H)} {ps:List MemPlace},
  (∀ t∈ts,P.readableRec t=true∧t<P.types.size)→DataW.TrodAll enc P W 0 (fun _=>true) true ts vs ds ps→(∀ p∈ps,p.block<W.heap.size)→(∀ p∈ps,sp' p.block=true) →
  DataW.TrodAll enc P W' 0 sp' true ts vs ds ps
 | [],[],[],_,_,h,_,_=>h
 | t :: ts,v :: vs,d :: ds,ps,ht,h,PV,hsp=>by
  obtain ⟨p,q,h1,h2,rfl⟩:=h;refine ⟨p,q,?_,?_,rfl⟩
  ·exact WideElems.Trod_stays hl (ht t (List.mem_cons_self ..)).1 (ht t (List.mem_cons_self ..)).2 h1 (fun x hx=>hb.same (PV x (DN.2 (Ws hx)))) (fun x hx=>hsp x (DN.2 (Ws hx)))
  ·exact MF hl hb (fun t' h'=>ht t' (List.mem_cons_of_mem _ h')) h2 (fun x hx=>PV x (DN.2 (Wh hx))) (fun x hx=>hsp x (DN.2 (Wh hx)))
 | [],[],_ :: _,_,_,h,_,_=>h.elim
 | [],_ :: _,_,_,_,h,_,_=>h.elim
 | _ :: _,[],_,_,_,h,_,_=>h.elim
 | _ :: _,_ :: _,[],_,_,h,_,_=>h.elim
theorem py {f:Func} {s:ChangeSpec} {apart fresh handsOn again:Bool} {W W':World} {args:Array Value} {ds gs:List (DataW H)} {before:List MemPlace} {tb:TypeId}
  (hW:DataW.Whole enc P f.params.toList s.vars apart W args.toList ds gs before) (hl:laidOutB P=true) (ht:∀ t∈f.params.toList,P.readableRec t=true∧t<P.types.size)
  (hv:s.vars=[]) (hs:s.fn H (ds++gs)={results:=[.lit (.bool true)],args:=ds}) (K7:f.resultTypes=#[tb]) (gD:P.underlying tb=some .bool)
  (hb:Below W W W') :
  s.post enc P f apart fresh handsOn again W args (.bool true) W':=by
 have PV:∀ p∈before,p.block<W.heap.size:=fun p hp=>hW.lt p hp
 have hold:∀ p∈before,(fun b=>decide (b<W.heap.size)) p.block=true:=fun p hp=>by simpa using PV p hp
 have hW0:=hW;obtain ⟨p,q,hA,hV,gW,hz,hn⟩:=hW;rw [hv] at hV;obtain ⟨rfl,rfl⟩:=trodVars_none hV;rw [um] at gW;subst gW
 have nZ:∀ sp:Nat→Bool,(∀ p∈before,sp p.block=true)→DataW.TrodAll enc P W' 0 sp true f.params.toList args.toList (s.fn H (ds++[])).args before:=by
  intro sp hsp;rw [hs];exact MF hl hb ht hA PV hsp
 have hr:∀ (b:Nat) (sp:Nat→Bool) (hd:Bool),DataW.TrodAll enc P W' b sp hd f.resultTypes.toList ((Value.bool true).resultList f.resultTypes.size) (s.fn H (ds++[])).results []:=by
  intro b sp hd;rw [hs,K7];exact trodAll_cons_mk (shut_bool gD _) trodAll_mk0
 have ib:∀ sp:Nat→Bool,(∀ p∈before,sp p.block=true)→DataW.TrodVars enc P W' sp s.vars (s.fn H (ds++[])).vars []:=by
  intro sp _;rw [hs,hv];rfl
 have Wq:∀ (j:Nat) (t:TypeId) (r:Value),f.resultTypes[j]?=some t→((Value.bool true).resultList f.resultTypes.size)[j]?=some r→Value.okWide P W' .any 0 t r:=by
  exact ok_one K7 rfl (okWide_bool_mk gD _)
 refine ⟨ds,[],before,[],before,[],hW0,hr _ _ _,nZ _ hold,ib _ hold,World.keptBut_mono (fun p hp=>⟨hp,?_⟩) (hb.frame (· ∈ before)),fun _=>?_⟩
 ·simpa using hp
 ·refine ⟨Wq,_,_,([]++before)++[],⟨[]++before,[],trodAll_append (nZ _ (fun _ _=>rfl)) (hr _ _ _),ib _ (fun _ _=>rfl),rfl,?_,?_⟩,?_⟩
  ·intro b off hp;have GA:MemPlace.cell b off∈before:=by simpa using hp
   rw [hb.frozen (PV _ GA)];exact hz b off GA
  ·intro ha;simpa using hn ha
  ·intro p hp _;simpa using hp
theorem zx {r:Reach} {b0:Nat} {t e:TypeId} {W:World} {v:Value} (ht:P.underlying t=some (.slice e)) (h:Value.okWide P W r b0 t v):v.cells=#[v]:=by
 obtain ⟨a,l,c,rfl⟩:=okWide_slice ht h;rfl
end
end Go.Proofs.Frame
namespace Go.Proofs.Rm
open Go.RowKit Go.WideShapes Go.ChangeShapes Go.Proofs.Heap Go.Proofs.Mem Go.Deep
structure OpV where
 o:Op
 sa:Option Addr
 sc:Nat
 ba:Option Addr
 bl:Nat
 bc:Nat
def Xi (x:OpV):List Value:=(Jo x.o x.sa x.o.ZK.length x.sc x.ba x.bl x.bc)
section
variable {H:Type} {enc:TypeId × Value→H} {W:World} {base:Nat} {sp:Nat→Bool} {held:Bool}
theorem M8 {w:World} {a:Addr} {v:Value} (h:w.cell? a=some v):a=⟨a.block,a.off,none⟩:=by
 obtain ⟨b,o,s⟩:=a;cases s with
 | none=>rfl
 | some x=>simp [World.cell?] at h;split at h <;> simp_all
theorem KO {a:Addr} (h:a=⟨a.block,a.off,none⟩) (j:Nat):a.add j=⟨a.block,a.off+j,none⟩:=by
 unfold Addr.add;split
 ·rename_i h0;subst h0;exact h
 ·rw [h]
theorem ET {fuel:Nat} {v:Value} {x:DataW H × List MemPlace} (h:DataW.trod enc Tryz.prog W base sp held fuel 29 [v]=some x):∃ (l:List Int) (a:Option Addr) (c:Nat),v = .slice a l.length c∧XR W (.slice a l.length c) l.length (YO l):=by
 rcases open_slice1 Tryz.underlying29 ZB h with ⟨hc,_⟩|⟨a,len,cap,m,n,V,D,Pl,Tn,hb,hl,hm,dt,_,hx⟩
 ·exact ⟨[],none,0,by simpa using hc,XR.nil _⟩
 ·have Ef:len≤m:=by rw [dt];split <;> omega
  have hv:v = .slice (some a) len cap:=by simpa using Tn
  have key:∀ i,i<len→∃ z,W.cell? (a.add i)=some (.int .u32 z)∧V i = .int .u32 z:=by
   intro i hi;obtain ⟨h1,h2⟩:=hx i Zo;obtain ⟨z,hz,_⟩:=DataW.trod_int Tryz.underlying66 h2;have hz:V i = .int .u32 z:=by simpa using hz
   exact ⟨z,by rw [h1,hz],hz⟩
  let l:List Int:=(List.range len).map fun i=>match V i with | .int _ z=>z|_=>0
  have wH:l.length=len:=by simp [l]
  refine ⟨l,some a,cap,by rw [wH];exact hv,some a,cap,rfl,by rw [wH];exact hl,hm,(fun h=>by cases h),?_⟩;by_cases h0:len=0
  ·exact Ws (BN (by rw [VV,wH];exact h0))
  ·obtain ⟨z0,uO,_⟩:=key 0 Zo;have o_:W.cell? a=some (.int .u32 z0):=by unfold Addr.add at uO;simpa using uO
   have ha:=M8 o_;refine Wh ⟨a.block,a.off,by rw [←ha],World.block_lt_of_cell? W a o_,fun j hj=>?_⟩;rw [VV,wH] at hj;obtain ⟨z,hz,hV⟩:=key j hj;rw [←KO ha,hz];simp [YO,l,hj,hV]
theorem seven {α:Type} {l:List α} (h:l.length=7):∃ c0 c1 c2 c3 c4 c5 c6,l=[c0,c1,c2,c3,c4,c5,c6]:=by
 obtain _|⟨c0,l⟩:=l
 ·simp at h
 obtain _|⟨c1,l⟩:=l
 ·simp at h
 obtain _|⟨c2,l⟩:=l
 ·simp at h
 obtain _|⟨c3,l⟩:=l
 ·simp at h
 obtain _|⟨c4,l⟩:=l
 ·simp at h
 obtain _|⟨c5,l⟩:=l
 ·simp at h
 obtain _|⟨c6,l⟩:=l
 ·simp at h
 obtain _|⟨c7,l⟩:=l
 ·exact ⟨_,_,_,_,_,_,_,rfl⟩
 ·simp at h
theorem NG {P:Program} {e:TypeId}:∀ {l:List (DataW H)} {d:DataW H},d∈l→∀ n∈d.weights P e,n∈DataW.weightsAll P e l
 | d0 :: l,d,hd,n,hn=>by
  simp only [DataW.weightsAll,DN];rcases KN.1 hd with rfl|hd
  ·exact Ws hn
  ·exact Wh (NG hd n hn)
 | [],_,hd,_,_=>by simp at hd
end
theorem xH {α:Type} (f:α→List Value) (k:Nat) (hk:∀ x,(f x).length=k) (gN:0<k) {w:World} {e:TypeId} {v:Value} {n:Nat} {l:List α} (h:Row w e v n (l.flatMap f)) (hl:0<l.length) :
  ∃ g off cap,v = .slice (some ⟨g,off,none⟩) n cap∧n≤cap∧cap≤maxLen∧g<w.heap.size∧∀ (i:Nat) (x:α),l[i]?=some x→∀ j,j<k→w.cell? ⟨g,off+i*k+j,none⟩=(f x)[j]?:=by
 exact Yx80
end Go.Proofs.Rm
namespace Go.Proofs.Rm
open Go.RowKit Go.Proofs.Heap Go.Proofs.Mem
end Go.Proofs.Rm
