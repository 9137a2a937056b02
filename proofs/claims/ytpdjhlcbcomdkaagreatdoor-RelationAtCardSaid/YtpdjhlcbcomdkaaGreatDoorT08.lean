/- Part of a proof. -/
import Derived.Test.YtpdjhlcbcomdkaaGreatDoorT07
set_option linter.unusedVariables false
set_option linter.unusedSimpArgs false
set_option maxRecDepth 100000
set_option maxHeartbeats 16000000
open Go Go.Q Go.Qr Go.Proofs.Tryz
namespace Go.Proofs.Rm
open Go.RowKit Go.Proofs.Heap Go.Proofs.Mem
open Go.Proofs.ND (may key Xu)
theorem rH(b:Nat)(R:Room)(o:Op)(sa ba:Option Addr)(sc bl bc:Nat)(w:World)(hR:ZR w b R)(hT:Xu w)(UT:o.name.length<9223372036854775807)(hRn:∀p,(R.names p).length<9223372036854775807)
  (ZW:XM w (.slice sa o.ZK.length sc) o.ZK.length (YN o.ZK)) :
  Calls prog 109 (Qi (some ⟨b,0,none⟩) (Jq o sa o.ZK.length sc ba bl bc)) w fun e w'=>e = .returned (.int .i64 (XW R o))∧Below w w w':=by
 have CJ:=Zh (fun(w1:World) (h:Below w w w1) (hp:1≤o.peer∧o.peer<9)=>qB b R o sa ba o.ZK.length sc bl bc w1 (hR.below h) hp (Utf8Tabs_below hT h) UT hRn);have CP:=Zh (fun(w1:World) (h:Below w w w1) (hs:1≤o.source∧o.source<9)=>Eu b R o sa ba sc bl bc w1 (hR.below h) hs (ZW.below h));have CA:=Zh (fun(w1:World) (h:Below w w w1) (hs:1≤o.source∧o.source<9) (hp:1≤o.peer∧o.peer<9)=>pH b R o sa ba o.ZK.length sc bl bc w1 (hR.below h) hs hp);have CT:=Zh (fun(w1:World) (h:Below w w w1)=>Tv b R o.peer w1 (hR.below h));have C1:=Zh (fun(w1:World)=>LJ o.peer 9 w1);have C2:=Zh (fun(w1:World)=>LJ o.source 9 w1);obtain⟨kd,p,n,q,nm,ss⟩:=o;have hb:=hR.lt
 have HW:Hid (XW R ⟨kd,p,n,q,nm,ss⟩=if kd<2∨12<kd then 4
  else if !VI p 9 then 5
  else if kd=2 then L_ R ⟨kd,p,n,q,nm,ss⟩
  else if !Y_ R p then 8
  else if kd=3 then 0
  else if !VI n 9 then 5
  else if kd=4 then VR R ⟨kd,p,n,q,nm,ss⟩
  else if !(R.src n.toNat).there then 8
  else about R ⟨kd,p,n,q,nm,ss⟩):=rfl
 have HI1:=Zh (Xl p 9);have HI2:=Zh (Xl n 9);have HR:=Zh hR;dsimp only at *
 clear hR hT UT hRn ZW;generalize XW R ⟨kd,p,n,q,nm,ss⟩=tA at *
 generalize L_ R ⟨kd,p,n,q,nm,ss⟩=jn at *
 generalize VR R ⟨kd,p,n,q,nm,ss⟩=pb at *
 generalize about R ⟨kd,p,n,q,nm,ss⟩=ab at *
 generalize Y_ R p=jd at *
 by_cases h1:kd<2
 ·have HF:Hid (tA=4):=by show _=_;rw[HW.o,ZU (WO h1)]
  go_enter func109,ntmps109;go_wp2;go_ret;exact⟨YS HF.o.symm,Z' _ _⟩
 by_cases h2:12<kd
 ·have HF:Hid (tA=4):=by show _=_;rw[HW.o,ZU (WB h2)]
  go_enter func109,ntmps109;go_wp2;go_ret;exact⟨YS HF.o.symm,Z' _ _⟩
 have BX:Hid (tA=if !VI p 9 then 5
  else if kd=2 then jn
  else if !jd then 8
  else if kd=3 then 0
  else if !VI n 9 then 5
  else if kd=4 then pb
  else if !(R.src n.toNat).there then 8
  else ab):=by show _=_;rw[HW.o,Z3 Zo]
 clear HW;cases gQ:VI p 9
 ·have HF:Hid (tA=5):=by show _=_;rw[BX.o,gQ];rfl
  rw[gQ]at C1;clear gQ BX;go_enter func109,ntmps109;go_wp2_with (go_at_call 111;refine(C1.o _).mono ?_;rintro e w1 ⟨rfl,rfl⟩)
  go_ret;exact⟨YS HF.o.symm,Z' _ _⟩
 have Lh:=HI1.o.1 gQ;rw[gQ]at C1 BX;clear gQ HI1;by_cases h3:kd=2
 ·subst h3;have HF:Hid (tA=jn):=by show _=_;rw[BX.o];rfl
  clear BX;go_enter func109,ntmps109;go_wp2_with (first|(go_at_call 111;refine(C1.o _).mono ?_;rintro e w1 ⟨rfl,rfl⟩)|(go_at_call 133;refine(CJ.o _ (Z' _ _) Lh).mono ?_;rintro e w1 ⟨rfl,YZ⟩))
  exact fy
 have nY:Hid (tA=if !jd then 8
  else if kd=3 then 0
  else if !VI n 9 then 5
  else if kd=4 then pb
  else if !(R.src n.toNat).there then 8
  else ab):=by show _=_;rw[BX.o];simp[h3]
 have b3:(kd==2)=false:=by rw[WM];exact h3
 clear BX h3;cases jd
 ·have HF:Hid (tA=8):=by show _=_;rw[nY.o];rfl
  exact Yx89
 by_cases h4:kd=3
 ·subst h4;have HF:Hid (tA=0):=by show _=_;rw[nY.o];rfl
  exact Yx89
 have b4:(kd==3)=false:=by rw[WM];exact h4
 have eX:Hid (tA=if !VI n 9 then 5
  else if kd=4 then pb
  else if !(R.src n.toNat).there then 8
  else ab):=by show _=_;rw[nY.o];simp[h4]
 clear nY h4;cases GR:VI n 9
 ·have HF:Hid (tA=5):=by show _=_;rw[eX.o,GR];rfl
  rw[GR]at C2;clear GR eX;go_enter func109,ntmps109;go_wp2_with fail
  refine(C1.o _).mono ?_;rintro e w1 ⟨rfl,rfl⟩;go_wp2_with (first|(go_at_call 80;refine(CT.o _ (Z' _ _)).mono ?_;rintro e w1 ⟨rfl,rfl⟩)|(go_at_call 111;refine(C2.o _).mono ?_;rintro e w1 ⟨rfl,rfl⟩))
  go_ret;exact⟨YS HF.o.symm,Z' _ _⟩
 have GS:=HI2.o.1 GR;rw[GR]at C2 eX;clear GR HI2;by_cases h5:kd=4
 ·subst h5;have HF:Hid (tA=pb):=by show _=_;rw[eX.o];rfl
  clear eX;go_enter func109,ntmps109;go_wp2_with fail
  refine(C1.o _).mono ?_;rintro e w1 ⟨rfl,rfl⟩;go_wp2_with (first|(go_at_call 80;refine(CT.o _ (Z' _ _)).mono ?_;rintro e w1 ⟨rfl,rfl⟩)|(go_at_call 111;refine(C2.o _).mono ?_;rintro e w1 ⟨rfl,rfl⟩)|(go_at_call 134;refine(CP.o _ (Z' _ _) GS).mono ?_;rintro e w1 ⟨rfl,YZ⟩))
  exact fy
 have HW5:Hid (tA=if !(R.src n.toNat).there then 8 else ab):=by show _=_;rw[eX.o];simp[h5]
 have b5:(kd==4)=false:=by rw[WM];exact h5
 clear eX h5;obtain⟨n,rfl⟩:=Rw (show 0≤n by omega);rw[Wl]at HW5;obtain⟨s0,s1,s2,s3,s4⟩:=HR.o.Ml (n:=n) Zo;clear s1 s2 s3 s4;cases ht:(R.src n).there
 ·have HF:Hid (tA=8):=by show _=_;rw[HW5.o,ht];rfl
  rw[ht]at s0;clear ht HW5;go_enter func109,ntmps109;go_wp2_with fail
  refine(C1.o _).mono ?_;rintro e w1 ⟨rfl,rfl⟩;go_wp2_with (first|(go_at_call 80;refine(CT.o _ (Z' _ _)).mono ?_;rintro e w1 ⟨rfl,rfl⟩)|(go_at_call 111;refine(C2.o _).mono ?_;rintro e w1 ⟨rfl,rfl⟩))
  go_quiet (fail)
  go_wp2;go_ret;exact⟨YS HF.o.symm,below_drewN (Z' _ _) _⟩
 ·have HF:Hid (tA=ab):=by show _=_;rw[HW5.o,ht];rfl
  rw[ht]at s0;clear ht HW5;go_enter func109,ntmps109;go_wp2_with fail
  refine(C1.o _).mono ?_;rintro e w1 ⟨rfl,rfl⟩;go_wp2_with (first|(go_at_call 80;refine(CT.o _ (Z' _ _)).mono ?_;rintro e w1 ⟨rfl,rfl⟩)|(go_at_call 111;refine(C2.o _).mono ?_;rintro e w1 ⟨rfl,rfl⟩))
  go_quiet (fail)
  go_wp2_with (go_at_call 135;refine(CA.o _ (below_drewN (Z' _ _) _) GS Lh).mono ?_;rintro e w1 ⟨rfl,YZ⟩)
  go_ret;exact⟨YS HF.o.symm,(below_drewN (Z' _ _) _).trans (YZ.mono Zi)⟩
def WW(b:Nat)(R:Room)(o:Op)(w:World)(e:Ending)(w':World):Prop:=
 ∃v sv,e = .returned v∧YD w' v (turns R o sv).1∧ZR w' b (turns R o sv).2∧Fr w (· = b) w w'
theorem Tc{b:Nat}{R R':Room}{o:Op}{w w':World}{v sv:Value}{l:List YF}(h:Hid (turns R o sv=(l,R')))(h1:YD w' v l)(h2:ZR w' b R')(h3:Fr w (· = b) w w'):WW b R o w (.returned v) w':=
 ⟨v,sv,rfl,by rw[h.o];exact h1,by rw[h.o];exact h2,h3⟩
theorem Td{b:Nat}{R:Room}{o:Op}{w w1 w':World}{v sv:Value}{x:List YF×Room}(h:Hid (turns R o sv=x))(h1:YD w' v x.1)(h2:ZR w' b x.2)(hw:Below w w w1)(h3:Fr w1 (· = b) w1 w'):WW b R o w (.returned v) w':=
 ⟨v,sv,rfl,by rw[h.o];exact h1,by rw[h.o];exact h2,(Fr.Z6 _ hw).trans (h3.mono hw.size (fun _ _ h=>h))⟩
theorem Nf(x:Sub)(on:Bool):∀j,j<3→Tb {x with ZV:=on} j=if j=1 then .bool on else Tb x j:=by
 intro j hj;have:j=0∨j=1∨j=2:=by omega
 rcases this with rfl|rfl|rfl <;> rfl
theorem BG(x:Sub)(q:Int):∀j,j<3→Tb {x with want:=q} j=if j=2 then .int .i64 q else Tb x j:=by
 intro j hj;have:j=0∨j=1∨j=2:=by omega
 rcases this with rfl|rfl|rfl <;> rfl
section
variable (b:Nat) (R:Room) (p n q:Int) (nm:List UInt8) (ss:List Int) (sa ba:Option Addr) (sl sc bl bc:Nat) (w:World) (hR:ZR w b R)
include hR
theorem vX(hp:1≤p∧p<9) :
  Calls prog 110 (Qi (some ⟨b,0,none⟩) (Qa 2 p n q (str nm) sa sl sc ba bl bc)) w (WW b R ⟨2,p,n,q,nm,ss⟩ w):=by
 obtain⟨p,rfl⟩:=Rw (show 0≤p by omega);have Lh:p<9:=by omega
 have hb:=hR.lt;have c0:=hR.sO Lh;have f0:=hR.YB p;have HF:Hid (turns R ⟨2,p,n,q,nm,ss⟩ (.slice none 0 0)=([],R.setName p nm)):=rfl;have JZ:=Zh (hR.setName Lh nm);have T8:Hid (Fr w (· = b) w (w.setCell ⟨b,p,none⟩ (.string (str nm)))):=(Fr.refl _ _ _).setAt _ _;clear hR;go_enter func110,ntmps110;go_wp2
 go_region
 go_wp2;go_ret;exact Tc HF (Row.nil _ _) j6 (by repeat(first|exact T8.o|refine Fr.drew ?_|refine Fr.alloc ?_ (by simp <;> omega) _))
theorem zN(hp:1≤p∧p<9) :
  Calls prog 110 (Qi (some ⟨b,0,none⟩) (Qa 3 p n q (str nm) sa sl sc ba bl bc)) w (WW b R ⟨3,p,n,q,nm,ss⟩ w):=by
 obtain⟨p,rfl⟩:=Rw (show 0≤p by omega);have Lh:p<9:=by omega
 have hb:=hR.lt;have HF:Hid (turns R ⟨3,p,n,q,nm,ss⟩ (.slice none 0 0)=leave R p):=rfl;have C:=Zh (fun(w1:World) (h:Below w w w1)=>qF b R p w1 (hR.below h) Lh);clear hR;go_enter func110,ntmps110;go_wp2_with (go_at_call 136;refine(C.o _ tY).mono ?_;rintro e w1 ⟨⟨tv,rfl,SX⟩,Xn,Wm⟩)
 go_ret;exact Td HF SX Xn tY Wm
theorem Hp(hn:1≤n∧n<9) :
  Calls prog 110 (Qi (some ⟨b,0,none⟩) (Qa 5 p n q (str nm) sa sl sc ba bl bc)) w (WW b R ⟨5,p,n,q,nm,ss⟩ w):=by
 obtain⟨n,rfl⟩:=Rw (show 0≤n by omega);have GS:n<9:=by omega
 have hb:=hR.lt;have HF:Hid (turns R ⟨5,p,n,q,nm,ss⟩ (.slice none 0 0)=gone R n):=rfl;have C:=Zh (fun(w1:World) (h:Below w w w1)=>Fx b R n w1 (hR.below h) GS);clear hR;go_enter func110,ntmps110;go_wp2_with (go_at_call 137;refine(C.o _ tY).mono ?_;rintro e w1 ⟨⟨tv,rfl,SX⟩,Xn,Wm⟩)
 go_ret;exact Td HF SX Xn tY Wm
theorem Ho(hp:1≤p∧p<9)(hn:1≤n∧n<9)(hq:0≤q∧q<(R.src n.toNat).ss.length) :
  Calls prog 110 (Qi (some ⟨b,0,none⟩) (Qa 6 p n q (str nm) sa sl sc ba bl bc)) w (WW b R ⟨6,p,n,q,nm,ss⟩ w):=by
 have hb:=hR.lt;have HF:Hid (turns R ⟨6,p,n,q,nm,ss⟩ (.slice none 0 0)=begin R ⟨6,p,n,q,nm,ss⟩):=rfl;have C:=Zh (fun(w1:World) (h:Below w w w1)=>Cb b R ⟨6,p,n,q,nm,ss⟩ sa ba sl sc bl bc w1 (hR.below h) hn hp hq);clear hR;go_enter func110,ntmps110;go_wp2_with (go_at_call 138;refine(C.o _ tY).mono ?_;rintro e w1 ⟨⟨tv,rfl,SX⟩,Xn,Wm⟩)
 go_ret;exact Td HF SX Xn tY Wm
theorem vY(hn:1≤n∧n<9) :
  Calls prog 110 (Qi (some ⟨b,0,none⟩) (Qa 8 p n q (str nm) sa sl sc ba bl bc)) w (WW b R ⟨8,p,n,q,nm,ss⟩ w):=by
 obtain⟨n,rfl⟩:=Rw (show 0≤n by omega);have GS:n<9:=by omega
 have hb:=hR.lt;have HF:Hid (turns R ⟨8,p,n,q,nm,ss⟩ (.slice none 0 0)=mute R n true):=rfl;have C:=Zh (fun(w1:World) (h:Below w w w1)=>ij b R n w1 (hR.below h) GS);exact bS
theorem BM(hn:1≤n∧n<9)(hw:∀p,p<9→(R.sub n.toNat p).there=true→0≤(R.sub n.toNat p).want∧(R.sub n.toNat p).want<(R.src n.toNat).ss.length) :
  Calls prog 110 (Qi (some ⟨b,0,none⟩) (Qa 9 p n q (str nm) sa sl sc ba bl bc)) w (WW b R ⟨9,p,n,q,nm,ss⟩ w):=by
 obtain⟨n,rfl⟩:=Rw (show 0≤n by omega);have GS:n<9:=by omega
 have hb:=hR.lt;have HF:Hid (turns R ⟨9,p,n,q,nm,ss⟩ (.slice none 0 0)=mute R n false):=rfl;have C:=Zh (fun(w1:World) (h:Below w w w1)=>mN b R n w1 (hR.below h) GS hw);exact bS
theorem Lc(hp:1≤p∧p<9)(hn:1≤n∧n<9) :
  Calls prog 110 (Qi (some ⟨b,0,none⟩) (Qa 7 p n q (str nm) sa sl sc ba bl bc)) w (WW b R ⟨7,p,n,q,nm,ss⟩ w):=by
 obtain⟨p,rfl⟩:=Rw (show 0≤p by omega);have Lh:p<9:=by omega
 obtain⟨n,rfl⟩:=Rw (show 0≤n by omega);have GS:n<9:=by omega
 have hb:=hR.lt;have HF:Hid (turns R ⟨7,p,n,q,nm,ss⟩ (.slice none 0 0)=([⟨2,p,n,0,0⟩],R.ZQ n p U9)):=rfl;have C:=Zh (fun(w1:World) (h:Below w w w1)=>AZ b R p n w1 (hR.below h) GS Lh);clear hR;go_enter func110,ntmps110;go_wp2_with (go_at_call 139;refine(C.o _ tY).mono ?_;rintro e w1 ⟨rfl,Xn,Wm⟩;have Xx:=Zh Xn;have T8:=Zh Wm;clear Xn Wm)
 have hz:=T8.o.size;go_ret;refine Td HF (Yw _ _ 1 _ ([⟨2,p,n,0,0⟩].flatMap Z7) Zd Zi) (Xx.o.alloc _) tY (T8.o.alloc hz _)
theorem zO(hp:1≤p∧p<9)(hn:1≤n∧n<9) :
  Calls prog 110 (Qi (some ⟨b,0,none⟩) (Qa 10 p n q (str nm) sa sl sc ba bl bc)) w (WW b R ⟨10,p,n,q,nm,ss⟩ w):=by
 obtain⟨p,rfl⟩:=Rw (show 0≤p by omega);have Lh:p<9:=by omega
 obtain⟨n,rfl⟩:=Rw (show 0≤n by omega);have GS:n<9:=by omega
 have hb:=hR.lt;obtain⟨c0,c1,c2⟩:=hR.Gr GS Lh;have f1:=hR.YB (54+n*27+p*3+1);have HF:Hid (turns R ⟨10,p,n,q,nm,ss⟩ (.slice none 0 0)=([⟨4,p,n,0,0⟩],R.ZQ n p {R.sub n p with ZV:=true})):=rfl;have JZ:=Zh (hR.SH GS Lh (i:=1) Zo (x:={R.sub n p with ZV:=true}) (v:= .bool true) (Nf _ _));have T8:Hid (Fr w (· = b) w (w.setCell ⟨b,54+n*27+p*3+1,none⟩ (.bool true))):=(Fr.refl _ _ _).setAt _ _;clear hR;go_enter func110,ntmps110;go_wp2
 go_region
 go_wp2;go_ret;exact Tc HF (by first|exact Row.drew (Yw _ _ 1 _ ([⟨4,p,n,0,0⟩].flatMap Z7) Zd Zi)|exact Yw _ _ 1 _ ([⟨4,p,n,0,0⟩].flatMap Z7) Zd (by simp[size_setCell])) j6 (by repeat(first|exact T8.o|refine Fr.drew ?_|refine Fr.alloc ?_ (by simp <;> omega) _))
end
end Go.Proofs.Rm
namespace Go.Proofs.Rm
open Go.RowKit Go.Proofs.Heap Go.Proofs.Mem
theorem Yt{w w':World}{a:Addr}{v:Value}(hb:Below w w w')(h:w.cell? a=some v):w'.cell? a=some v:=(hb.cell (World.block_lt_of_cell? w _ h)).trans h
theorem NS{w:World}{a:Addr}{v:Value}(h:w.cell? a=some v)(o:Obj):(w.alloc o).cell? a=some v:=Yt (Z' _ _) h
theorem Vw{w:World}{a:Addr}{v:Value}(h:w.cell? a=some v):w.drew.cell? a=some v:=h
theorem H9{w:World}{a:Addr}{v:Value}(h:w.drew.drew.cell? a=some v)(o:Obj):(w.alloc o).drew.drew.cell? a=some v:=NS (w:=w) h o
theorem H_{w:World}{a:Addr}{v:Value}(h:w.drew.drew.drew.cell? a=some v)(o:Obj):(w.alloc o).drew.drew.drew.cell? a=some v:=NS (w:=w) h o
theorem cell_grown{w w':World}{row:Option Nat}{a:Addr}{v:Value}(hg:w.grownBy w' row)(h:w.cell? a=some v)(WN:∀k,row=some k→a.block<k):w'.cell? a=some v:=
 (World.cell?_of_block (hg.block a.block (World.block_lt_of_cell? w _ h) (fun e=>by have:=WN _ e.symm;omega))).trans h
theorem Ce{W:World}{m:Nat}(hm:W.heap.size=m)(A:Obj)(cs:Array Value)(e:TypeId)(j:Nat):((W.alloc A).alloc (.cells cs e)).cell? ⟨m+1,j,none⟩=cs[j]?:=by
 subst hm;have:=(V4 W A (.cells cs e)).2;simp only[World.cell?,this];rfl
theorem Cc{W:World}{m:Nat}(hm:W.heap.size=m)(B:Obj)(cs:Array Value)(e:TypeId)(j:Nat):((W.alloc (.cells cs e)).alloc B).cell? ⟨m,j,none⟩=cs[j]?:=by
 subst hm;have:=(V4 W (.cells cs e) B).1;simp only[World.cell?,this];rfl
structure TX(b:Nat)(R1:Room)(w w':World):Prop where
 room:ZR w' b R1
 fr:Fr w (· = b) w w'
 size:w.heap.size+1<w'.heap.size
theorem TX.drew{b:Nat}{R1:Room}{w w':World}(h:TX b R1 w w'):TX b R1 w w'.drew:=⟨h.room.drew,h.fr.drew,h.size⟩
theorem TX.alloc{b:Nat}{R1:Room}{w w':World}(h:TX b R1 w w')(o:Obj):TX b R1 w (w'.alloc o):=⟨h.room.alloc o,h.fr.alloc (by have:=h.size;omega) o,by have:=h.size;simp;omega⟩
theorem TX.below{b:Nat}{R1:Room}{w w1 w':World}(h:TX b R1 w w1)(hb:Below w1 w1 w'):TX b R1 w w':=
 ⟨h.room.below hb,h.fr.trans ((Fr.Z6 _ hb).mono (by have:=h.size;omega) (fun _ _ h=>h)),by have:=h.size;have:=hb.size;omega⟩
theorem TX.kE{b:Nat}{R1:Room}{w w':World}(h:TX b R1 w w'.drew.drew)(o:Obj):TX b R1 w (w'.alloc o).drew.drew:=
 h.below ⟨rfl,rfl,rfl,by show w'.heap.size≤(w'.alloc o).heap.size;simp,fun k hk=>Below.heap_alloc _ _ _ hk⟩
theorem TX.kF{b:Nat}{R1:Room}{w w':World}(h:TX b R1 w w'.drew.drew.drew)(o:Obj):TX b R1 w (w'.alloc o).drew.drew.drew:=
 h.below ⟨rfl,rfl,rfl,by show w'.heap.size≤(w'.alloc o).heap.size;simp,fun k hk=>Below.heap_alloc _ _ _ hk⟩
theorem TX.grown{b:Nat}{R1:Room}{w w1 w':World}(h:TX b R1 w w1)(hb:b<w.heap.size){base:Nat}{v:Value}{m:Nat}{ys:List Value}(ho:w1.ownsRow base 158 5 v m ys)(hg:w1.grownBy w' v.ownBlock)(hB:w.heap.size≤base):TX b R1 w w':=
 ⟨ZR.grown h.room ho hg Zo Zd,h.fr.grown hg (by have:=h.size;omega) (fun k hk=>PX hB (YL ho k hk)),by have:=h.size;have:=hg.size;omega⟩
theorem O7(w:World)(e:TypeId)(size n m base:Nat)(xs:List Value)(hl:xs.length=n*size)(hn:n≤maxLen)(hm:m=w.heap.size)(hB:base≤m):(w.alloc (.cells xs.toArray e)).ownsRow base e size (.slice (some ⟨m,0,none⟩) n n) n xs:=by
 exact Yt27
theorem TX.yq{b:Nat}{R1:Room}{w w1 w':World}(h:TX b R1 w w1)(hb:b<w.heap.size){v:Value}{m:Nat}{ys:List Value}(ho:w1.ownsRow (w.heap.size+2) 158 5 v m ys)(hg:Hid (w1.grownBy w' v.ownBlock)) :
  TX b R1 w w'∧∀a u,a.block≤w.heap.size+1→w1.cell? a=some u→w'.cell? a=some u:=
 ⟨h.grown hb ho hg.o Zo,fun a u ha hu=>cell_grown hg.o hu (fun k hk=>by have:=YL ho k hk;omega)⟩
theorem OL{w:World}{b m i j:Nat}{u v:Value}(hb:b<m)(h:w.cell? ⟨m,j,none⟩=some v):(w.setCell ⟨b,i,none⟩ u).cell? ⟨m,j,none⟩=some v:=by
 rw[World.cell?_setCell_other _ _ _ _ (by intro e;injection e;omega)];exact h
theorem pO{w:World}{b m j i0 i1 i2 i3 i4:Nat}{u0 u1 u2 u3 u4 v:Value}(hb:b<m)(h:w.cell? ⟨m,j,none⟩=some v):(((((w.setCell ⟨b,i0,none⟩ u0).setCell ⟨b,i1,none⟩ u1).setCell ⟨b,i2,none⟩ u2).setCell ⟨b,i3,none⟩ u3).setCell ⟨b,i4,none⟩ u4).cell? ⟨m,j,none⟩=some v:=
 OL hb (OL hb (OL hb (OL hb (OL hb h))))
theorem ru{w:World}{b m i0 i1 i2 i3 i4:Nat}{u0 u1 u2 u3 u4:Value}(h:m<w.heap.size):m<(((((w.setCell ⟨b,i0,none⟩ u0).setCell ⟨b,i1,none⟩ u1).setCell ⟨b,i2,none⟩ u2).setCell ⟨b,i3,none⟩ u3).setCell ⟨b,i4,none⟩ u4).heap.size:=by
 simpa[size_setCell]using h
section
variable (b:Nat) (R:Room) (p n q:Int) (nm:List UInt8) (ss:List Int) (sa ba:Option Addr) (sl sc bl bc:Nat) (w:World) (hR:ZR w b R)
include hR
theorem EG(hp:1≤p∧p<9)(hn:1≤n∧n<9)(ZW:XM w (.slice sa sl sc) ss.length (YN ss))(hl:ss.length≤1000000) :
  Calls prog 110 (Qi (some ⟨b,0,none⟩) (Qa 4 p n q (str nm) sa sl sc ba bl bc)) w (WW b R ⟨4,p,n,q,nm,ss⟩ w):=by
 obtain⟨p,rfl⟩:=Rw (show 0≤p by omega);have Lh:p<9:=by omega
 obtain⟨n,rfl⟩:=Rw (show 0≤n by omega);have GS:n<9:=by omega
 have hb:=hR.lt;have SR:Hid (∀w1,Below w w w1→ZR w1 b R):=fun w1 h=>hR.below h
 have Ht:Hid (sl=ss.length):=by
  obtain⟨a',c',e,_⟩:=ZW;injection e
 have HUF:Hid (∀w1,ZR w1 b R→∀j,w1.frozen? ⟨b,j,none⟩=false):=fun w1 h j=>h.YB j
 have C:=Zh (fun(w1:World) (h:Below w w w1)=>BR (.slice sa sl sc) ss w1 (ZW.below h) hl);have JW:∀A B:Obj,Below w w ((w.alloc A).alloc B).drew:=fun A B=>(((YI _ _).alloc (Zw _) A).alloc Zi B).drew
 clear hR ZW hl;go_enter func110,ntmps110;go_wp2
 go_region_held3 (fun w'=>w'.cell? ⟨w,1,none⟩=some (.int .i64 p)∧w'.cell? ⟨w,2,none⟩=some (.int .i64 n)∧w'.cell? ⟨w,5,none⟩=some (.slice sa sl sc)∧Fr w (· = b) w w'∧w.heap.size+1<w'.heap.size) (first|(refine⟨?_,?_,?_,?_,?_⟩ <;> first|with_reducible assumption|(with_reducible refine Fr.drew ?_;with_reducible assumption)|(with_reducible refine Fr.Z6 _ ?_;with_reducible apply JW)|((with_reducible refine Fr.setAt ?_ _ _);(repeat(with_reducible refine Fr.setAt ?_ _ _));with_reducible assumption)|(with_reducible refine pO hb ?_;with_reducible assumption)|(with_reducible refine ru ?_;with_reducible assumption)|go_keep)|go_keep) (first|(go_at_call 112;go_split_ands;refine Calls.mono (C.o _ (JW _ _)) ?_;rintro e w2 ⟨⟨cv,rfl,hcr⟩,Zb⟩;have Yp:=Below.trans (JW _ _) (Zb.mono (iO (Nat.lt_of_succ_lt WQ)));have R_:=Fr.Z6 (· = b) Yp;have qq:=OB WQ Zb.size;obtain⟨ca,cc,hce,hcx⟩:=id hcr;clear hcx;subst hce;have HCR:=Zh hcr;clear hcr;obtain⟨s0,s1,s2,s3,s4⟩:=(SR.o w2 Yp).Ml GS;have f0:=HUF.o w2 (SR.o w2 Yp) (9+n*5);have f1:=HUF.o w2 (SR.o w2 Yp) (9+n*5+1);have f2:=HUF.o w2 (SR.o w2 Yp) (9+n*5+2);have f3:=HUF.o w2 (SR.o w2 Yp) (9+n*5+3);have f4:=HUF.o w2 (SR.o w2 Yp) (9+n*5+4);have k1:=Yt (a:=⟨w,1,none⟩) Zb WQ;have k2:=Yt (a:=⟨w,2,none⟩) Zb WQ;have k5:=Yt (a:=⟨w,5,none⟩) Zb WQ))
 go_wp2;go_ret;have HF:Hid (turns R ⟨4,p,n,q,nm,ss⟩ (.slice ca ss.length cc)=([],R.Y0 n ⟨true,n,p,.slice ca ss.length cc,ss,false⟩)):=rfl;exact Tc HF (Row.nil _ _) ((SR.o w2 Yp).Y0 GS ⟨true,n,p,.slice ca ss.length cc,ss,false⟩ HCR.o) (((((R_.setAt _ _).setAt _ _).setAt _ _).setAt _ _).setAt _ _)
end
end Go.Proofs.Rm
namespace Go.Proofs.Rm
open Go.RowKit Go.Proofs.Heap Go.Proofs.Mem
section
variable (b:Nat) (R:Room) (p n q:Int) (nm:List UInt8) (ss:List Int) (sa ba:Option Addr) (sl sc bl bc:Nat) (w:World) (hR:ZR w b R)
include hR
theorem BJ(hp:1≤p∧p<9)(hn:1≤n∧n<9)(hw:0≤(R.sub n.toNat p.toNat).want∧(R.sub n.toNat p.toNat).want<(R.src n.toNat).ss.length) :
  Calls prog 110 (Qi (some ⟨b,0,none⟩) (Qa 11 p n q (str nm) sa sl sc ba bl bc)) w (WW b R ⟨11,p,n,q,nm,ss⟩ w):=by
 obtain⟨p,rfl⟩:=Rw (show 0≤p by omega);have Lh:p<9:=by omega
 obtain⟨n,rfl⟩:=Rw (show 0≤n by omega);have GS:n<9:=by omega
 have hb:=hR.lt;obtain⟨c0,c1,c2⟩:=hR.Gr GS Lh;have fz:=hR.YB (54+n*27+p*3+1);have HF:Hid (turns R ⟨11,p,n,q,nm,ss⟩ (.slice none 0 0)=(⟨5,p,n,0,0⟩ :: waits (R.ZQ n p {R.sub n p with ZV:=false}) p n,R.ZQ n p {R.sub n p with ZV:=false})):=rfl;have JZ:=Zh (hR.SH GS Lh (i:=1) Zo (x:={R.sub n p with ZV:=false}) (v:= .bool false) (Nf _ _));have T8:Hid (Fr w (· = b) w (w.setCell ⟨b,54+n*27+p*3+1,none⟩ (.bool false))):=(Fr.refl _ _ _).setAt _ _
 have CW:Hid (∀w1,ZR w1 b (R.ZQ n p {R.sub n p with ZV:=false})→Calls prog 141 (Qu (some ⟨b,0,none⟩) p n) w1 fun e w'=>(∃v,e = .returned v∧YD w' v (waits (R.ZQ n p {R.sub n p with ZV:=false}) p n))∧Below w1 w1 w'):=
  fun w1 h=>JT b _ p n w1 h GS Lh (by rw[V_];exact hw)
 have jT:(waits (R.ZQ n p {R.sub n p with ZV:=false}) p n).length≤1:=by unfold waits;split <;> simp
 clear hR hw;have HTX:Hid (∀B1 B2:Obj,TX b (R.ZQ n p {R.sub n p with ZV:=false}) w (((w.setCell ⟨b,54+n*27+p*3+1,none⟩ (.bool false)).alloc B1).alloc B2).drew):=fun B1 B2=>⟨((JZ.o.alloc _).alloc _).drew,((T8.o.alloc Zi _).alloc Zi _).drew,by simp⟩
 generalize waits (R.ZQ n p {R.sub n p with ZV:=false}) p n=W at *
 generalize R.ZQ n p {R.sub n p with ZV:=false}=R1 at *
 go_enter func110,ntmps110;go_wp2
 go_region
 go_wp2;have htx:=HTX.o
 go_region_held3 (fun w'=>w'.cell? ⟨w.heap.size+1,0,none⟩=some (.int .i64 5)∧w'.cell? ⟨w.heap.size+1,1,none⟩=some (.int .i64 p)∧w'.cell? ⟨w.heap.size+1,2,none⟩=some (.int .i64 n)∧w'.cell? ⟨w.heap.size+1,3,none⟩=some (.int .i64 0)∧w'.cell? ⟨w.heap.size+1,4,none⟩=some (.int .u32 0)∧w'.cell? ⟨w,1,none⟩=some (.int .i64 p)∧w'.cell? ⟨w,2,none⟩=some (.int .i64 n)∧TX b R1 w w') ((go_split_ands;((repeat' apply And.intro) <;> first|with_reducible assumption|((with_reducible apply Vw);with_reducible assumption)|(with_reducible apply TX.drew;with_reducible assumption)|(with_reducible apply TX.drew;with_reducible apply htx)|(with_reducible apply NS;with_reducible assumption)|(with_reducible apply H9;with_reducible assumption)|(with_reducible apply H_;with_reducible assumption)|(with_reducible apply TX.alloc;with_reducible assumption)|(with_reducible apply TX.kE;with_reducible assumption)|(with_reducible apply TX.kF;with_reducible assumption)|((with_reducible apply Vw);(with_reducible apply Vw);(with_reducible refine(Ce (size_setCell _ _ _) _ _ _ _).trans ?_);rfl)|((with_reducible apply Vw);(with_reducible apply Vw);(with_reducible refine(Cc (size_setCell _ _ _) _ _ _ _).trans ?_);rfl)|go_keep))) (first|(go_at_call 141;go_split_ands;refine Calls.mono (CW.o _ (TX.room WQ)) ?_;rintro e w2 ⟨⟨tv,rfl,SX⟩,Zb⟩;have EL:=Zh SX;clear SX;have k0:=Yt (a:=⟨w.heap.size+1,0,none⟩) Zb WQ;have k1:=Yt (a:=⟨w.heap.size+1,1,none⟩) Zb WQ;have k2:=Yt (a:=⟨w.heap.size+1,2,none⟩) Zb WQ;have k3:=Yt (a:=⟨w.heap.size+1,3,none⟩) Zb WQ;have k4:=Yt (a:=⟨w.heap.size+1,4,none⟩) Zb WQ;have k5:=Yt (a:=⟨w,1,none⟩) Zb WQ;have k6:=Yt (a:=⟨w,2,none⟩) Zb WQ;have tx2:=TX.below WQ Zb)|(go_split_ands;refine Ze Zr (.tmp 105) (.tmp 111) 98 Zr (w.heap.size+2) Xy _ 1 ([YF.mk 5 p n 0 0].flatMap Z7) Zr ?_ _ W.length (W.flatMap Z7) Zr ?_ (Vx _) (X4 _) Zo Zo ?_ ?_;(first|exact O7 _ _ 5 1 _ _ ([YF.mk 5 p n 0 0].flatMap Z7) rfl Zd rfl (by have:=tx2.size;omega)|(exact Zv (by repeat(first|exact QQ _ _ 5 1 _ ([YF.mk 5 p n 0 0].flatMap Z7) rfl Zd Zi|refine Xb ?_)) Zb));(first|exact EL.o|exact EL.o.below (Z' _ _));(have hs:=TX.size WQ;omega);intro v' w3 HO HG;obtain⟨tx3,yx⟩:=TX.yq WQ hb (by first|exact O7 _ _ 5 1 _ _ ([YF.mk 5 p n 0 0].flatMap Z7) rfl Zd rfl (by have:=tx2.size;omega)|(exact Zv (by repeat(first|exact QQ _ _ 5 1 _ ([YF.mk 5 p n 0 0].flatMap Z7) rfl Zd Zi|refine Xb ?_)) Zb)) HG;have g0:=yx ⟨w.heap.size+1,0,none⟩ _ Zi WQ;have g1:=yx ⟨w.heap.size+1,1,none⟩ _ Zi WQ;have g2:=yx ⟨w.heap.size+1,2,none⟩ _ Zi WQ;have g3:=yx ⟨w.heap.size+1,3,none⟩ _ Zi WQ;have g4:=yx ⟨w.heap.size+1,4,none⟩ _ Zi WQ;have g5:=yx ⟨w,1,none⟩ _ Zi WQ;have g6:=yx ⟨w,2,none⟩ _ Zi WQ;clear yx))
 all_goals
  go_wp2;go_ret;have ZW:=Row.Z4 HO.o;rw[Nat.add_comm]at ZW;exact Tc HF ZW tx3.room tx3.fr
end
section
variable (b:Nat) (R:Room) (p n q:Int) (nm:List UInt8) (ss:List Int) (sa ba:Option Addr) (sl sc bl bc:Nat) (w:World) (hR:ZR w b R)
include hR
theorem BK(hp:1≤p∧p<9)(hn:1≤n∧n<9)(hw:0≤q∧q<(R.src n.toNat).ss.length) :
  Calls prog 110 (Qi (some ⟨b,0,none⟩) (Qa 12 p n q (str nm) sa sl sc ba bl bc)) w (WW b R ⟨12,p,n,q,nm,ss⟩ w):=by
 obtain⟨p,rfl⟩:=Rw (show 0≤p by omega);have Lh:p<9:=by omega
 obtain⟨n,rfl⟩:=Rw (show 0≤n by omega);have GS:n<9:=by omega
 have hb:=hR.lt;obtain⟨c0,c1,c2⟩:=hR.Gr GS Lh;have fz:=hR.YB (54+n*27+p*3+2);have HF:Hid (turns R ⟨12,p,n,q,nm,ss⟩ (.slice none 0 0)=(⟨8,p,n,q,0⟩ :: waits (R.ZQ n p {R.sub n p with want:=q}) p n,R.ZQ n p {R.sub n p with want:=q})):=rfl;have JZ:=Zh (hR.SH GS Lh (i:=2) Zo (x:={R.sub n p with want:=q}) (v:= .int .i64 q) (BG _ _));have T8:Hid (Fr w (· = b) w (w.setCell ⟨b,54+n*27+p*3+2,none⟩ (.int .i64 q))):=(Fr.refl _ _ _).setAt _ _
 have CW:Hid (∀w1,ZR w1 b (R.ZQ n p {R.sub n p with want:=q})→Calls prog 141 (Qu (some ⟨b,0,none⟩) p n) w1 fun e w'=>(∃v,e = .returned v∧YD w' v (waits (R.ZQ n p {R.sub n p with want:=q}) p n))∧Below w1 w1 w'):=
  fun w1 h=>JT b _ p n w1 h GS Lh (by rw[V_];exact hw)
 have jT:(waits (R.ZQ n p {R.sub n p with want:=q}) p n).length≤1:=by unfold waits;split <;> simp
 clear hR hw;have HTX:Hid (∀B1 B2:Obj,TX b (R.ZQ n p {R.sub n p with want:=q}) w (((w.setCell ⟨b,54+n*27+p*3+2,none⟩ (.int .i64 q)).alloc B1).alloc B2).drew.drew):=fun B1 B2=>⟨((JZ.o.alloc _).alloc _).drew.drew,((T8.o.alloc Zi _).alloc Zi _).drew.drew,by simp⟩
 generalize waits (R.ZQ n p {R.sub n p with want:=q}) p n=W at *
 generalize R.ZQ n p {R.sub n p with want:=q}=R1 at *
 go_enter func110,ntmps110;go_wp2
 go_region
 go_wp2
 go_region
 go_wp2;have htx:=HTX.o
 go_region_held3 (fun w'=>w'.cell? ⟨w.heap.size+1,0,none⟩=some (.int .i64 8)∧w'.cell? ⟨w.heap.size+1,1,none⟩=some (.int .i64 p)∧w'.cell? ⟨w.heap.size+1,2,none⟩=some (.int .i64 n)∧w'.cell? ⟨w.heap.size+1,3,none⟩=some (.int .i64 q)∧w'.cell? ⟨w.heap.size+1,4,none⟩=some (.int .u32 0)∧w'.cell? ⟨w,1,none⟩=some (.int .i64 p)∧w'.cell? ⟨w,2,none⟩=some (.int .i64 n)∧TX b R1 w w') ((go_split_ands;((repeat' apply And.intro) <;> first|with_reducible assumption|((with_reducible apply Vw);with_reducible assumption)|(with_reducible apply TX.drew;with_reducible assumption)|(with_reducible apply TX.drew;with_reducible apply htx)|(with_reducible apply NS;with_reducible assumption)|(with_reducible apply H9;with_reducible assumption)|(with_reducible apply H_;with_reducible assumption)|(with_reducible apply TX.alloc;with_reducible assumption)|(with_reducible apply TX.kE;with_reducible assumption)|(with_reducible apply TX.kF;with_reducible assumption)|((with_reducible apply Vw);(with_reducible apply Vw);(with_reducible apply Vw);(with_reducible refine(Ce (size_setCell _ _ _) _ _ _ _).trans ?_);rfl)|((with_reducible apply Vw);(with_reducible apply Vw);(with_reducible apply Vw);(with_reducible refine(Cc (size_setCell _ _ _) _ _ _ _).trans ?_);rfl)|go_keep))) (first|(go_at_call 141;go_split_ands;refine Calls.mono (CW.o _ (TX.room WQ)) ?_;rintro e w2 ⟨⟨tv,rfl,SX⟩,Zb⟩;have EL:=Zh SX;clear SX;have k0:=Yt (a:=⟨w.heap.size+1,0,none⟩) Zb WQ;have k1:=Yt (a:=⟨w.heap.size+1,1,none⟩) Zb WQ;have k2:=Yt (a:=⟨w.heap.size+1,2,none⟩) Zb WQ;have k3:=Yt (a:=⟨w.heap.size+1,3,none⟩) Zb WQ;have k4:=Yt (a:=⟨w.heap.size+1,4,none⟩) Zb WQ;have k5:=Yt (a:=⟨w,1,none⟩) Zb WQ;have k6:=Yt (a:=⟨w,2,none⟩) Zb WQ;have tx2:=TX.below WQ Zb)|(go_split_ands;refine Ze Zr (.tmp 132) (.tmp 138) 98 Zr (w.heap.size+2) Xy _ 1 ([YF.mk 8 p n q 0].flatMap Z7) Zr ?_ _ W.length (W.flatMap Z7) Zr ?_ (Vx _) (X4 _) Zo Zo ?_ ?_;(first|exact O7 _ _ 5 1 _ _ ([YF.mk 8 p n q 0].flatMap Z7) rfl Zd rfl (by have:=tx2.size;omega)|(exact Zv (by repeat(first|exact QQ _ _ 5 1 _ ([YF.mk 8 p n q 0].flatMap Z7) rfl Zd Zi|refine Xb ?_)) Zb));(first|exact EL.o|exact EL.o.below (Z' _ _));(have hs:=TX.size WQ;omega);intro v' w3 HO HG;obtain⟨tx3,yx⟩:=TX.yq WQ hb (by first|exact O7 _ _ 5 1 _ _ ([YF.mk 8 p n q 0].flatMap Z7) rfl Zd rfl (by have:=tx2.size;omega)|(exact Zv (by repeat(first|exact QQ _ _ 5 1 _ ([YF.mk 8 p n q 0].flatMap Z7) rfl Zd Zi|refine Xb ?_)) Zb)) HG;have g0:=yx ⟨w.heap.size+1,0,none⟩ _ Zi WQ;have g1:=yx ⟨w.heap.size+1,1,none⟩ _ Zi WQ;have g2:=yx ⟨w.heap.size+1,2,none⟩ _ Zi WQ;have g3:=yx ⟨w.heap.size+1,3,none⟩ _ Zi WQ;have g4:=yx ⟨w.heap.size+1,4,none⟩ _ Zi WQ;have g5:=yx ⟨w,1,none⟩ _ Zi WQ;have g6:=yx ⟨w,2,none⟩ _ Zi WQ;clear yx))
 all_goals
  go_wp2;go_ret;have ZW:=Row.Z4 HO.o;rw[Nat.add_comm]at ZW;exact Tc HF ZW tx3.room tx3.fr
end
end Go.Proofs.Rm
namespace Go.Proofs.Rm
open Go.RowKit Go.Proofs.Heap Go.Proofs.Mem
open Go.Proofs.ND (may key Xu)
theorem rC(b:Nat)(R:Room)(o:Op)(sa ba:Option Addr)(sc bl bc:Nat)(w:World)(hR:ZR w b R)(hI:Inv R)(ok:Ok R o)
  (ZW:XM w (.slice sa o.ZK.length sc) o.ZK.length (YN o.ZK)) :
  Calls prog 110 (Qi (some ⟨b,0,none⟩) (Jq o sa o.ZK.length sc ba bl bc)) w (WW b R o w):=by
 have We:=ok;obtain⟨kd,p,n,q,nm,ss⟩:=o;obtain⟨hk,hp,hj,ht,hs,uJ,gS,LF⟩:=ok;dsimp only at *
 by_cases k2:kd=2
 ·subst k2;exact vX b R p n q nm ss sa ba _ sc bl bc w hR hp
 by_cases k3:kd=3
 ·subst k3;exact zN b R p n q nm ss sa ba _ sc bl bc w hR hp
 have hn:=hs Zo;by_cases k4:kd=4
 ·subst k4;have h2:=(Gd (uJ rfl)).2.1;dsimp only at h2;exact EG b R p n q nm ss sa ba _ sc bl bc w hR hp hn ZW Zo
 have LF:=LF Zo;have hb:=fun q=>hI.Y6 n.toNat q
 by_cases k5:kd=5
 ·subst k5;exact Hp b R p n q nm ss sa ba _ sc bl bc w hR hn
 by_cases k6:kd=6
 ·subst k6;exact Ho b R p n q nm ss sa ba _ sc bl bc w hR hp hn (O4 (OE LF rfl).2.2)
 by_cases k7:kd=7
 ·subst k7;exact Lc b R p n q nm ss sa ba _ sc bl bc w hR hp hn
 by_cases k8:kd=8
 ·subst k8;exact vY b R p n q nm ss sa ba _ sc bl bc w hR hn
 by_cases k9:kd=9
 ·subst k9;exact BM b R p n q nm ss sa ba _ sc bl bc w hR hn fun p' _ ht=>⟨(hb p' ht).2.2.2.2.2.2.2.1,(hb p' ht).2.2.2.2.2.2.2.2⟩
 obtain⟨h1,_,_,h4⟩:=Ty LF (by right;show 10≤kd;omega);dsimp only at h1 h4;by_cases k10:kd=10
 ·subst k10;exact zO b R p n q nm ss sa ba _ sc bl bc w hR hp hn
 by_cases k11:kd=11
 ·subst k11;exact BJ b R p n q nm ss sa ba _ sc bl bc w hR hp hn ⟨(hb _ h1).2.2.2.2.2.2.2.1,(hb _ h1).2.2.2.2.2.2.2.2⟩
 obtain rfl:kd=12:=by omega
 exact BK b R p n q nm ss sa ba _ sc bl bc w hR hp hn (O4 (h4 rfl).1)
def ER(b:Nat)(R:Room)(o:Op)(w:World)(e:Ending)(w':World):Prop:=
 ∃v sv,e = .returned (.tuple #[v,.int .i64 (WG R o sv).2])∧YD w' v (WG R o sv).1.1∧ZR w' b (WG R o sv).1.2∧Fr w (· = b) w w'
theorem AY{b:Nat}{R:Room}{o:Op}{w w':World}{x:Int}(hx:Hid (XW R o=x))(WN:x≠0)(h2:ZR w' b R)(h3:Fr w (· = b) w w'):ER b R o w (.returned (.tuple (Q9 none 0 0 x))) w':=by
 have h:∀sv,WG R o sv=(([],R),x):=fun sv=>by unfold WG;rw[hx.o,ZU WN]
 exact⟨.slice none 0 0,.slice none 0 0,by rw[h],by rw[h];exact Row.nil _ _,by rw[h];exact h2,h3⟩
theorem AX{b:Nat}{R:Room}{o:Op}{w w1 w':World}{v:Value}(hx:Hid (XW R o=0))(hb:Below w w w1)(h:WW b R o w1 (.returned v) w'):ER b R o w (.returned (.tuple #[v,.int .i64 0])) w':=by
 obtain⟨v',sv,he,h1,h2,h3⟩:=h;injection he with he
 subst he;have hd:WG R o sv=(turns R o sv,0):=by unfold WG;rw[hx.o];simp
 exact⟨v,sv,by rw[hd],by rw[hd];exact h1,by rw[hd];exact h2,(Fr.Z6 _ hb).trans (h3.mono hb.size (fun _ _ h=>h))⟩
theorem EF{b:Nat}{R:Room}{o:Op}{w w':World}{e:Ending}(h:WW b R o w e w'):∃v,e = .returned v∧WW b R o w (.returned v) w':=by
 obtain⟨v,sv,he,h1⟩:=h;exact⟨v,he,v,sv,rfl,h1⟩
theorem IB{R:Room}(hI:Inv R):∀p,(R.names p).length<9223372036854775807:=by
 intro p;by_cases h:R.names p=[]
 ·rw[h];decide
 ·have:=ND.sL (hI.nameAt p h).2;omega
theorem jk(b:Nat)(R:Room)(o:Op)(sa ba:Option Addr)(sc bl bc:Nat)(w:World)(hR:ZR w b R)(hI:Inv R)(hT:Xu w)(UT:o.name.length<9223372036854775807)
  (ZW:XM w (.slice sa o.ZK.length sc) o.ZK.length (YN o.ZK)) :
  Calls prog 77 (Qi (some ⟨b,0,none⟩) (Jq o sa o.ZK.length sc ba bl bc)) w (ER b R o w):=by
 have CW:=Zh (fun(w1:World) (h:Below w w w1)=>rH b R o sa ba sc bl bc w1 (hR.below h) (Utf8Tabs_below hT h) UT (IB hI) (ZW.below h));have CT:=Zh (fun(w1:World) (h:Below w w w1) (ok:XW R o=0)=>rC b R o sa ba sc bl bc w1 (hR.below h) hI (Pn ok) (ZW.below h));have hb:=hR.lt;have HRB:Hid (∀w1,Below w w w1→ZR w1 b R):=fun w1 h=>hR.below h
 have HDW:=Zh (fun(w':World) x=>@AY b R o w w' x);have HDR:=Zh (fun(w1 w':World) v=>@AX b R o w w1 w' v);have HTV:=Zh (fun(w1 w':World) e=>@EF b R o w1 w' e);clear hR hI hT UT ZW;obtain⟨kd,p,n,q,nm,ss⟩:=o;dsimp only at *
 generalize ER b R ⟨kd,p,n,q,nm,ss⟩ w=DP at *
 generalize hwx:XW R ⟨kd,p,n,q,nm,ss⟩=x at *
 have HX:=Zh hwx;clear hwx;by_cases hx:x=0
 ·subst hx;go_enter func77,ntmps77;go_wp2_with fail
  refine(CW.o _ (Z' _ _)).mono ?_;rintro e w1 ⟨rfl,YZ⟩;have c0:=Yt (a:=⟨w,0,none⟩) YZ (v:= .int .i64 kd) Zi;have c1:=Yt (a:=⟨w,1,none⟩) YZ (v:= .int .i64 p) Zi;have c2:=Yt (a:=⟨w,2,none⟩) YZ (v:= .int .i64 n) Zi;have c3:=Yt (a:=⟨w,3,none⟩) YZ (v:= .int .i64 q) Zi;have c4:=Yt (a:=⟨w,4,none⟩) YZ (v:= .string (str nm)) Zi;have c5:=Yt (a:=⟨w,5,none⟩) YZ (v:= .slice sa ss.length sc) Zi;have c6:=Yt (a:=⟨w,6,none⟩) YZ (v:= .slice ba bl bc) Zi;have WX:Below w w w1:=(Z' _ _).trans (YZ.mono Zi);clear YZ;go_wp2_with fail
  refine(CT.o _ WX trivial).mono ?_;intro e w2 hp;obtain⟨tv,rfl,hp⟩:=HTV.o _ _ _ hp;have HP:=Zh hp;clear hp;go_wp2_with fail
  exact HDR.o _ _ _ (by first|exact rfl|exact trivial) WX HP.o
 ·have sk:(x !=0)=true:=by rw[RH];exact hx
  have HXN:=Zh hx;clear hx;go_enter func77,ntmps77;go_wp2_with fail
  refine(CW.o _ (Z' _ _)).mono ?_;rintro e w1 ⟨rfl,YZ⟩;have WX:Below w w w1:=(Z' _ _).trans (YZ.mono Zi);clear YZ;go_wp2_with fail
  exact HDW.o _ _ (by first|exact rfl|exact trivial) HXN.o (HRB.o _ WX) (Fr.Z6 _ WX)
theorem nP:∀j,j<297→(((List.range 297).map (WK empty)).toArray)[j]?=some (WK empty j):=by
 intro j hj;simp[hj]
theorem rU(w:World):Calls prog 69 #[] w fun e w'=>e = .returned (.pointer (some ⟨w,0,none⟩))∧ZR w' w empty∧Below w w w':=by
 go_enter func69,ntmps69;go_wp2;go_ret;have HZ:Tryz.zeroCells152=((List.range 297).map (WK empty)).toArray:=by kernel_rfl
 refine⟨rfl,⟨⟨_,Z9 _ _,by rw[HZ];simp,fun j hj=>by rw[HZ];exact nP j hj⟩,fun n _=>Row.nil _ _⟩,Z' _ _⟩
theorem sQ(R:Room)(x:Int):∀k n:Nat,n+k≤9→0≤(RT R x k n).1∧(RT R x k n).1<9
 | 0,_,_=>by simp[RT]
 | k+1,n,h=>by
  unfold RT;split
  ·dsimp only;omega
  ·exact sQ R x k (n+1) Zo
theorem of_lt(R:Room)(x:Int):0≤(of R x).1∧(of R x).1<9:=sQ R x 9 0 Zo
theorem wT(b:Nat)(R:Room)(p x:Int)(w:World)(hR:ZR w b R) :
  Calls prog 132 (Jc (some ⟨b,0,none⟩) p x) w fun e w'=>
   (∃v,e = .returned (.tuple #[v,.int .i64 (YW R p x).2])∧YD w' v (YW R p x).1.1)∧ZR w' b (YW R p x).1.2∧Fr w (· = b) w w':=by
 have hb:=hR.lt;have CO:=Zh (IQ b R x w hR);have OT:=of_lt R x;have HG:Hid (YW R p x=if !(of R x).2.2 || !Y_ R p||decide ((R.src (of R x).1.toNat).own≠p)then(([],R),8)else(gone R (of R x).1.toNat,0)):=rfl;have HR:Hid (∀w1,Below w w w1→ZR w1 b R):=fun w1 h=>hR.below h
 clear hR;generalize of R x=o at *
 obtain⟨o1,o2,o3⟩:=o;dsimp only at *
 obtain⟨n,rfl⟩:=Rw OT.1;rw[Wl]at HG;have hn:n<9:=by omega
 cases o3
 ·have HF:Hid (YW R p x=(([],R),8)):=by show _=_;rw[HG.o];rfl
  go_enter func132,ntmps132;go_wp2_with (go_at_call 127;refine CO.o.mono ?_;rintro e w1 ⟨rfl,YZ⟩)
  exact Yt28
 have CJ:Hid (∀w1,Below w w w1→_):=fun w1 h=>Tv b R p w1 (HR.o w1 h)
 have CG:Hid (∀w1,Below w w w1→_):=fun w1 h=>Fx b R n w1 (HR.o w1 h) hn
 have HSC:Hid (∀w1,Below w w w1→w1.cell? ⟨b,9+n*5+1+1,none⟩=some (.int .i64 (R.src n).own)):=fun w1 h=>((HR.o w1 h).Ml hn).2.2.1
 cases hj:Y_ R p
 ·have HF:Hid (YW R p x=(([],R),8)):=by show _=_;rw[HG.o,hj];rfl
  rw[hj]at CJ;clear hj;go_enter func132,ntmps132;go_wp2_with (first|(go_at_call 127;refine CO.o.mono ?_;rintro e w1 ⟨rfl,YZ⟩)|(go_at_call 80;refine(CJ.o _ YZ).mono ?_;rintro e w2 ⟨rfl,rfl⟩))
  exact Yt28
 rw[hj]at CJ HG;clear hj;by_cases ho:(R.src n).own=p
 ·have HF:Hid (YW R p x=(gone R n,0)):=by show _=_;rw[HG.o];simp[ho]
  rw[ho]at HSC;clear ho HG;generalize gone R n=G at *
  go_enter func132,ntmps132;go_wp2_with (first|(go_at_call 127;refine CO.o.mono ?_;rintro e w1 ⟨rfl,YZ⟩;have hsc:=HSC.o _ YZ)|(go_at_call 80;refine(CJ.o _ YZ).mono ?_;rintro e w2 ⟨rfl,rfl⟩)|(go_at_call 137;refine(CG.o _ YZ).mono ?_;rintro e w2 ⟨⟨tv,rfl,SX⟩,Xn,Wm⟩))
  go_ret2
  rw[HF.o];exact⟨⟨_,rfl,SX⟩,Xn,(Fr.Z6 _ YZ).trans (Wm.mono YZ.size (fun _ _ h=>h))⟩
 ·have HF:Hid (YW R p x=(([],R),8)):=by show _=_;rw[HG.o];simp[ho]
  have sk:((R.src n).own !=p)=true:=by rw[RH];exact ho
  clear ho HG;go_enter func132,ntmps132;go_wp2_with (first|(go_at_call 127;refine CO.o.mono ?_;rintro e w1 ⟨rfl,YZ⟩;have hsc:=HSC.o _ YZ)|(go_at_call 80;refine(CJ.o _ YZ).mono ?_;rintro e w2 ⟨rfl,rfl⟩))
  exact Yt28
end Go.Proofs.Rm
namespace Go.Proofs.Rm
open Go.RowKit Go.Proofs.Heap Go.Proofs.Mem
structure Vd where
 num:Int
 name:List UInt8
deriving DecidableEq
structure Wd where
 num:Int
 own:Int
 ss:List Int
 ZN:Bool
deriving DecidableEq
structure Vn where
 peer:Int
 source:Int
 want:Int
 ZV:Bool
deriving DecidableEq
structure ZO where
 Zz:List Vd
 Yj:List Wd
 ZY:List Vn
deriving DecidableEq
def Yy(x:Vd):List Value:=(Q5 x.num (str x.name))
def Zg(x:Wd×Value):List Value:=[.int .i64 x.1.num,.int .i64 x.1.own,x.2,.bool x.1.ZN]
def Zq(x:Vn):List Value:=(Qk x.peer x.source x.want x.ZV)
structure Hx(w:World)(pv sv uv:Value)(T:ZO):Prop where
 Zz:Row w 103 pv T.Zz.length (T.Zz.flatMap Yy)
 Yj:∃ms:List (Wd×Value),ms.map Prod.fst=T.Yj∧Row w 108 sv ms.length (ms.flatMap Zg)∧∀m∈ms,Row w 66 m.2 m.1.ss.length (YN m.1.ss)
 ZY:Row w 105 uv T.ZY.length (T.ZY.flatMap Zq)
theorem Hx.fr{B:Nat}{S:Nat→Prop}{w w':World}{pv sv uv:Value}{T:ZO}(h:Hx w pv sv uv T)(hf:Fr B S w w')(hB:w.heap.size≤B)
  (h1:∀k c fr,S k→w.heap[k]?≠some (.cells c 103 fr)) (h2:∀k c fr,S k→w.heap[k]?≠some (.cells c 108 fr)) (h3:∀k c fr,S k→w.heap[k]?≠some (.cells c 105 fr)) (h4:∀k c fr,S k→w.heap[k]?≠some (.cells c 66 fr)):Hx w' pv sv uv T:=by
 obtain⟨a,⟨ms,b1,b2,b3⟩,c⟩:=h;exact⟨a.fr hf hB h1,⟨ms,b1,b2.fr hf hB h2,fun m hm=>(b3 m hm).fr hf hB h4⟩,c.fr hf hB h3⟩
theorem Hx.below{w w':World}{pv sv uv:Value}{T:ZO}(h:Hx w pv sv uv T)(hb:Below w w w'):Hx w' pv sv uv T:=
 h.fr (Fr.Z6 Pz hb) (Zw _) (fun _ _ _ h=>h.elim) (fun _ _ _ h=>h.elim) (fun _ _ _ h=>h.elim) (fun _ _ _ h=>h.elim)
theorem TM:Elem prog 47 103 2 24:=⟨underlying47,⟨.agg (Q5 0 ⟨#[]⟩),by kernel_rfl,rfl⟩,by decide⟩
theorem UX:Elem prog 48 108 4 48:=⟨underlying48,⟨.agg (Qp 0 0 none 0 0 false),by kernel_rfl,rfl⟩,by decide⟩
theorem Ug:Elem prog 49 105 4 32:=⟨underlying49,⟨.agg (Qk 0 0 0 false),by kernel_rfl,rfl⟩,by decide⟩
theorem Wu{base:Nat}{e:TypeId}{size:Nat}{v:Value}{n:Nat}{xs:List Value}{w:World}(h:w.ownsRow base e size v n xs):∃a c,v = .slice a n c:=by
 obtain⟨_,h⟩:=h;rcases h with⟨rfl,rfl⟩|⟨g,cap,cur,rfl,_⟩
 ·exact⟨_,_,rfl⟩
 ·exact⟨_,_,rfl⟩
theorem set3{w:World}{b:Nat}{u0 u1 u2 v0 v1 v2:Value}(h0:w.cell? ⟨b,0,none⟩=some u0)(h1:w.cell? ⟨b,1,none⟩=some u1)(h2:w.cell? ⟨b,2,none⟩=some u2) :
  (((w.setCell ⟨b,0,none⟩ v0).setCell ⟨b,1,none⟩ v1).setCell ⟨b,2,none⟩ v2).cell? ⟨b,0,none⟩=some v0∧(((w.setCell ⟨b,0,none⟩ v0).setCell ⟨b,1,none⟩ v1).setCell ⟨b,2,none⟩ v2).cell? ⟨b,1,none⟩=some v1∧(((w.setCell ⟨b,0,none⟩ v0).setCell ⟨b,1,none⟩ v1).setCell ⟨b,2,none⟩ v2).cell? ⟨b,2,none⟩=some v2:=by
 have e01:(⟨b,0,none⟩:Addr)≠⟨b,1,none⟩:=by simp
 have e02:(⟨b,0,none⟩:Addr)≠⟨b,2,none⟩:=by simp
 have e12:(⟨b,1,none⟩:Addr)≠⟨b,2,none⟩:=by simp
 refine⟨?_,?_,?_⟩
 ·rw[World.cell?_setCell_other _ _ _ _ Zi,World.cell?_setCell_other _ _ _ _ Zi,nZ _ _ _ h0]
 ·rw[World.cell?_setCell_other _ _ _ _ Zi,nZ (u:=u1)];rw[World.cell?_setCell_other _ _ _ _ Zi];exact h1
 ·rw[nZ (u:=u2)];rw[World.cell?_setCell_other _ _ _ _ Zi,World.cell?_setCell_other _ _ _ _ Zi];exact h2
section
end
theorem KQ(x:Vd):∀u∈Yy x,u.oneCell'=true:=by
 intro u hu;simp only[Yy,J9,List.mem_nil_iff,or_false]at hu;rcases hu with rfl|rfl <;> rfl
theorem Lb(x:Vn):∀u∈Zq x,u.oneCell'=true:=by
 intro u hu;simp only[Zq,J9,List.mem_nil_iff,or_false]at hu;rcases hu with rfl|rfl|rfl|rfl <;> rfl
theorem La(x:Wd)(a:Option Addr)(n c:Nat):∀u∈Zg (x,.slice a n c),u.oneCell'=true:=by
 intro u hu;simp only[Zg,J9,List.mem_nil_iff,or_false]at hu;rcases hu with rfl|rfl|rfl|rfl <;> rfl
end Go.Proofs.Rm
namespace Go.Proofs.Frame
open Go.RowKit Go.WideShapes Go.ChangeShapes
section
variable {H:Type} {enc:TypeId×Value→H} {P:Program}
theorem Me(hl:laidOutB P=true){W W':World}{sp':Nat→Bool}(hb:Below W W W'):∀ {ts:List TypeId} {vs:List Value} {ds:List (DataW H)} {ps:List MemPlace},
  (∀t∈ts,P.readableRec t=true∧t<P.types.size)→DataW.TrodAll enc P W 0 (fun _=>true) true ts vs ds ps→(∀p∈ps,p.block<W.heap.size)→(∀p∈ps,sp' p.block=true) →
  DataW.TrodAll enc P W' 0 sp' true ts vs ds ps
 | [],[],[],_,_,h,_,_=>h
 | t :: ts,v :: vs,d :: ds,ps,ht,h,OT,hsp=>by
  obtain⟨p,q,h1,h2,rfl⟩:=h;refine⟨p,q,?_,?_,rfl⟩
  ·exact WideElems.Trod_stays hl (ht t (List.mem_cons_self ..)).1 (ht t (List.mem_cons_self ..)).2 h1 (fun x hx=>hb.same (OT x (EN.2 (WO hx)))) (fun x hx=>hsp x (EN.2 (WO hx)))
  ·exact Me hl hb (fun t' h'=>ht t' (List.mem_cons_of_mem _ h')) h2 (fun x hx=>OT x (EN.2 (WB hx))) (fun x hx=>hsp x (EN.2 (WB hx)))
 | [],[],_ :: _,_,_,h,_,_=>h.elim
 | [],_ :: _,_,_,_,h,_,_=>h.elim
 | _ :: _,[],_,_,_,h,_,_=>h.elim
 | _ :: _,_ :: _,[],_,_,h,_,_=>h.elim
theorem mI{f:Func}{s:ChangeSpec}{apart fresh handsOn again:Bool}{W W':World}{args:Array Value}{ds gs:List (DataW H)}{before:List MemPlace}{tb:TypeId}
  (hW:DataW.Whole enc P f.params.toList s.vars apart W args.toList ds gs before) (hl:laidOutB P=true) (ht:∀t∈f.params.toList,P.readableRec t=true∧t<P.types.size)
  (hv:s.vars=[]) (hs:s.fn H (ds++gs)={results:=[.lit (.bool true)],args:=ds}) (Kv:f.resultTypes=#[tb]) (dg:P.underlying tb=some .bool)
  (hb:Below W W W') :
  s.post enc P f apart fresh handsOn again W args (.bool true) W':=by
 have OT:∀p∈before,p.block<W.heap.size:=fun p hp=>hW.lt p hp
 have hold:∀p∈before,(fun b=>decide (b<W.heap.size)) p.block=true:=fun p hp=>by simpa using OT p hp
 have hW0:=hW;obtain⟨p,q,hA,hV,dK,hz,hn⟩:=hW;rw[hv]at hV;obtain⟨rfl,rfl⟩:=trodVars_none hV;rw[rW]at dK;subst dK
 have ll:∀sp:Nat→Bool,(∀p∈before,sp p.block=true)→DataW.TrodAll enc P W' 0 sp true f.params.toList args.toList (s.fn H (ds++[])).args before:=by
  intro sp hsp;rw[hs];exact Me hl hb ht hA OT hsp
 have hr:∀(b:Nat) (sp:Nat→Bool) (hd:Bool),DataW.TrodAll enc P W' b sp hd f.resultTypes.toList ((Value.bool true).resultList f.resultTypes.size) (s.fn H (ds++[])).results []:=by
  intro b sp hd;rw[hs,Kv];exact trodAll_cons_mk (shut_bool dg _) trodAll_mk0
 have dR:∀sp:Nat→Bool,(∀p∈before,sp p.block=true)→DataW.TrodVars enc P W' sp s.vars (s.fn H (ds++[])).vars []:=by
  intro sp _;rw[hs,hv];rfl
 have We:∀(j:Nat) (t:TypeId) (r:Value),f.resultTypes[j]?=some t→((Value.bool true).resultList f.resultTypes.size)[j]?=some r→Value.okWide P W' .any 0 t r:=by
  exact ok_one Kv rfl (okWide_bool_mk dg _)
 refine⟨ds,[],before,[],before,[],hW0,hr _ _ _,ll _ hold,dR _ hold,World.keptBut_mono (fun p hp=>⟨hp,?_⟩) (hb.frame (· ∈ before)),fun _=>?_⟩
 ·simpa using hp
 ·refine⟨We,_,_,([]++before)++[],⟨[]++before,[],trodAll_append (ll _ (fun _ _=>rfl)) (hr _ _ _),dR _ (fun _ _=>rfl),rfl,?_,?_⟩,?_⟩
  ·intro b off hp;have GR:MemPlace.cell b off∈before:=by simpa using hp
   rw[hb.frozen (OT _ GR)];exact hz b off GR
  ·intro ha;simpa using hn ha
  ·intro p hp _;simpa using hp
theorem xS{r:Reach}{b0:Nat}{t e:TypeId}{W:World}{v:Value}(ht:P.underlying t=some (.slice e))(h:Value.okWide P W r b0 t v):v.cells=#[v]:=by
 obtain⟨a,l,c,rfl⟩:=okWide_slice ht h;rfl
end
end Go.Proofs.Frame
namespace Go.Proofs.Rm
open Go.RowKit Go.WideShapes Go.ChangeShapes Go.Proofs.Heap Go.Proofs.Mem Go.Deep
structure OpV where
 o:Op
 sa:Option Addr
 sc:Nat
 ba:Option Addr
 bl:Nat
 bc:Nat
def XJ(x:OpV):List Value:=(Jq x.o x.sa x.o.ZK.length x.sc x.ba x.bl x.bc)
section
variable {H:Type} {enc:TypeId×Value→H} {W:World} {base:Nat} {sp:Nat→Bool} {held:Bool}
theorem MC{w:World}{a:Addr}{v:Value}(h:w.cell? a=some v):a=⟨a.block,a.off,none⟩:=by
 obtain⟨b,o,s⟩:=a;cases s with
 | none=>rfl
 | some x=>simp[World.cell?]at h;split at h <;> simp_all
theorem Ka{a:Addr}(h:a=⟨a.block,a.off,none⟩)(j:Nat):a.add j=⟨a.block,a.off+j,none⟩:=by
 unfold Addr.add;split
 ·rename_i h0;subst h0;exact h
 ·rw[h]
theorem DT{fuel:Nat}{v:Value}{x:DataW H×List MemPlace}(h:DataW.trod enc prog W base sp held fuel 29 [v]=some x):∃(l:List Int) (a:Option Addr) (c:Nat),v = .slice a l.length c∧XM W (.slice a l.length c) l.length (YN l):=by
 rcases open_slice1 underlying29 X_ h with⟨hc,_⟩|⟨a,len,cap,m,n,V,D,Pl,TN,hb,hl,hm,gW,_,hx⟩
 ·exact⟨[],none,0,by simpa using hc,XM.nil _⟩
 ·have Aa:len≤m:=by rw[gW];split <;> omega
  have hv:v = .slice (some a) len cap:=by simpa using TN
  have key:∀i,i<len→∃z,W.cell? (a.add i)=some (.int .u32 z)∧V i = .int .u32 z:=by
   intro i hi;obtain⟨h1,h2⟩:=hx i Zo;obtain⟨z,hz,_⟩:=DataW.trod_int underlying66 h2;have hz:V i = .int .u32 z:=by simpa using hz
   exact⟨z,by rw[h1,hz],hz⟩
  let l:List Int:=(List.range len).map fun i=>match V i with | .int _ z=>z|_=>0
  have uH:l.length=len:=by simp[l]
  refine⟨l,some a,cap,by rw[uH];exact hv,some a,cap,rfl,by rw[uH];exact hl,hm,(fun h=>by cases h),?_⟩;by_cases h0:len=0
  ·exact WO (AH (by rw[VU,uH];exact h0))
  ·obtain⟨z0,wO,_⟩:=key 0 Zo;have mA:W.cell? a=some (.int .u32 z0):=by unfold Addr.add at wO;simpa using wO
   have ha:=MC mA;refine WB ⟨a.block,a.off,by rw[←ha],World.block_lt_of_cell? W a mA,fun j hj=>?_⟩;rw[VU,uH]at hj;obtain⟨z,hz,hV⟩:=key j hj;rw[←Ka ha,hz];simp[YN,l,hj,hV]
theorem seven{α:Type}{l:List α}(h:l.length=7):∃c0 c1 c2 c3 c4 c5 c6,l=[c0,c1,c2,c3,c4,c5,c6]:=by
 obtain _|⟨c0,l⟩:=l
 ·simp at h
 obtain _|⟨c1,l⟩:=l
 ·simp at h
 obtain _|⟨c2,l⟩:=l
 ·simp at h
 obtain _|⟨c3,l⟩:=l
 ·simp at h
 obtain _|⟨c4,l⟩:=l
 ·simp at h
 obtain _|⟨c5,l⟩:=l
 ·simp at h
 obtain _|⟨c6,l⟩:=l
 ·simp at h
 obtain _|⟨c7,l⟩:=l
 ·exact⟨_,_,_,_,_,_,_,rfl⟩
 ·simp at h
theorem Nk{P:Program}{e:TypeId}:∀ {l:List (DataW H)} {d:DataW H},d∈l→∀n∈d.weights P e,n∈DataW.weightsAll P e l
 | d0 :: l,d,hd,n,hn=>by
  simp only[DataW.weightsAll,EN];rcases J9.1 hd with rfl|hd
  ·exact WO hn
  ·exact WB (Nk hd n hn)
 | [],_,hd,_,_=>by simp at hd
end
theorem vD{α:Type}(f:α→List Value)(k:Nat)(hk:∀x,(f x).length=k)(dD:0<k){w:World}{e:TypeId}{v:Value}{n:Nat}{l:List α}(h:Row w e v n (l.flatMap f))(hl:0<l.length) :
  ∃g off cap,v = .slice (some ⟨g,off,none⟩) n cap∧n≤cap∧cap≤maxLen∧g<w.heap.size∧∀(i:Nat) (x:α),l[i]?=some x→∀j,j<k→w.cell? ⟨g,off+i*k+j,none⟩=(f x)[j]?:=by
 exact Yx80
end Go.Proofs.Rm
namespace Go.Proofs.Rm
open Go.RowKit Go.Proofs.Heap Go.Proofs.Mem
theorem slice_inj{a b:Option Addr}{n m c d:Nat}(h:Value.slice a n c = .slice b m d):a=b∧c=d:=by
 injection h with h1 h2 h3
 exact⟨h1,h3⟩
theorem sW{w:World}{a:Option Addr}{c:Nat}{l:List Vd}(h:Row w 103 (.slice a l.length c) l.length (l.flatMap Yy))(hl:0<l.length):∃g off,a=some ⟨g,off,none⟩∧∀(i:Nat) (x:Vd),l[i]?=some x →
  w.cell? ⟨g,off+i*2,none⟩=some (.int .i64 x.num)∧w.cell? ⟨g,off+i*2+1,none⟩=some (.string (str x.name)):=by
 exact Yx136
theorem Om{w:World}{a:Option Addr}{c:Nat}{l:List Vn}(h:Row w 105 (.slice a l.length c) l.length (l.flatMap Zq))(hl:0<l.length):∃g off,a=some ⟨g,off,none⟩∧∀(i:Nat) (x:Vn),l[i]?=some x →
  w.cell? ⟨g,off+i*4,none⟩=some (.int .i64 x.peer)∧w.cell? ⟨g,off+i*4+1,none⟩=some (.int .i64 x.source)∧w.cell? ⟨g,off+i*4+2,none⟩=some (.int .i64 x.want)∧w.cell? ⟨g,off+i*4+3,none⟩=some (.bool x.ZV):=by
 obtain⟨g,off,cap,h1,_,_,_,h5⟩:=vD Zq 4 (fun _=>rfl) Zo h hl;exact⟨g,off,(slice_inj h1).1,fun i x hx=>⟨h5 i x hx 0 Zo,h5 i x hx 1 Zo,h5 i x hx 2 Zo,h5 i x hx 3 Zo⟩⟩
theorem Su{w:World}{a:Option Addr}{c:Nat}{l:List (Wd×Value)}(h:Row w 108 (.slice a l.length c) l.length (l.flatMap Zg))(hl:0<l.length):∃g off,a=some ⟨g,off,none⟩∧∀(i:Nat) (x:Wd×Value),l[i]?=some x →
  w.cell? ⟨g,off+i*4,none⟩=some (.int .i64 x.1.num)∧w.cell? ⟨g,off+i*4+1,none⟩=some (.int .i64 x.1.own)∧w.cell? ⟨g,off+i*4+2,none⟩=some x.2∧w.cell? ⟨g,off+i*4+3,none⟩=some (.bool x.1.ZN):=by
 obtain⟨g,off,cap,h1,_,_,_,h5⟩:=vD Zg 4 (fun _=>rfl) Zo h hl;exact⟨g,off,(slice_inj h1).1,fun i x hx=>⟨h5 i x hx 0 Zo,h5 i x hx 1 Zo,h5 i x hx 2 Zo,h5 i x hx 3 Zo⟩⟩
end Go.Proofs.Rm
namespace Go.Proofs.Rm
open Go.RowKit Go.Proofs.Heap Go.Proofs.Mem
open Go.Proofs.ND (may key Xu)
theorem K4{α:Type}(f:α→List Value)(k:Nat)(hk:∀x,(f x).length=k)(dD:0<k){w:World}{v:Value}{n:Nat}{l:List α}(h:XM w v n (l.flatMap f))(hl:0<l.length) :
  ∃g off cap,v = .slice (some ⟨g,off,none⟩) n cap∧n≤cap∧cap≤maxLen∧g<w.heap.size∧∀(i:Nat) (x:α),l[i]?=some x→∀j,j<k→w.cell? ⟨g,off+i*k+j,none⟩=(f x)[j]?:=by
 exact Yx80
structure Wn(R:Room):Prop where
 short:∀n,(R.src n).ss.length≤1000000
theorem Na{R:Room}(h:Wn R)(n:Nat)(x:Src)(hx:x.ss.length≤1000000):Wn (R.Y0 n x):=⟨fun m=>by rw[Wq];split;exact hx;exact h.short m⟩
theorem DJ{R:Room}(h:Wn R)(n:Nat):Wn (gone R n).2:=⟨fun m=>by rw[OQ];split;exact TH _;exact h.short m⟩
theorem vN{R:Room}(h:Wn R)(p:Nat):Wn (leave R p).2:=by
 have h1:Wn (ZL p R 9).2:=⟨fun m=>by rw[(Rk R p 9).2];exact h.short m⟩;exact⟨fun m=>by show((ZH (ZL p R 9).2 p 9).2.src m).ss.length≤_;rw[Oc];split;exact TH _;exact h1.short m⟩
theorem vO{R:Room}{o:Op}(h:Wn R)(ok:Ok R o)(sv:Value):Wn (turns R o sv).2:=by
 unfold turns;dsimp only;by_cases k2:o.kind=2
 ·rw[ZU k2];exact⟨h.short⟩
 rw[Z3 k2];by_cases k3:o.kind=3
 ·rw[ZU k3];exact vN h _
 rw[Z3 k3];by_cases k4:o.kind=4
 ·rw[ZU k4];exact Na h _ _ (by have:=(Gd (ok.Bu k4)).2.1;show o.ZK.length≤_;omega)
 rw[Z3 k4];by_cases k5:o.kind=5
 ·rw[ZU k5];exact DJ h _
 rw[Z3 k5];by_cases k6:o.kind=6
 ·rw[ZU k6];exact⟨h.short⟩
 rw[Z3 k6];by_cases k7:o.kind=7
 ·rw[ZU k7];exact⟨h.short⟩
 rw[Z3 k7];by_cases k8:o.kind=8
 ·rw[ZU k8];exact Na h _ _ (h.short _)
 rw[Z3 k8];by_cases k9:o.kind=9
 ·rw[ZU k9];exact Na h _ _ (h.short _)
 rw[Z3 k9];split
 ·exact⟨h.short⟩
 split
 ·exact⟨h.short⟩
 split
 ·exact⟨h.short⟩
 ·exact h
theorem Gp{R:Room}(h:Wn R)(o:Op)(sv:Value):Wn (WG R o sv).1.2:=by
 unfold WG;by_cases h0:XW R o=0
 ·rw[Z3 (by simpa using h0)];exact vO h (Pn h0) sv
 ·rw[ZU h0];exact h
theorem Uw:Wn empty:=⟨fun _=>TH _⟩
theorem M_{R:Room}(h:Wn R)(p x:Int):Wn (YW R p x).1.2:=by
 unfold YW;split
 ·exact h
 ·exact DJ h _
end Go.Proofs.Rm
namespace Go.Proofs.Rm
open Go.RowKit Go.Proofs.Heap Go.Proofs.Mem
open Go.Proofs.ND (may key Xu)
theorem NR(b:Nat)(R:Room)(n:Nat)(w:World)(hR:ZR w b R)(hI:Inv R)(hl:∀n,(R.src n).ss.length≤1000000) :
  Calls prog 81 (Qj (some ⟨b,0,none⟩) n) w fun e w'=>
   (∃(nm ow:Int) (a:Option Addr) (k c:Nat) (mu has:Bool),e = .returned (.tuple (Q0 (Qp nm ow a k c mu) has))∧has=(R.src n).there∧(has=true→ow=(R.src n).own))∧Below w w w':=by
 cases ht:(R.src n).there
 ·refine(pg b R n w hR ?_).mono ?_
  ·rw[Wl,ht,Bool.and_false]
  ·rintro e w' ⟨rfl,hb⟩;exact⟨⟨_,_,_,_,_,_,_,rfl,rfl,fun h=>by cases h⟩,hb⟩
 ·have hs:=hI.YV n ht;refine(tV b R n w hR ⟨hs.1,hs.2.1⟩ ht (hl n)).mono ?_;rintro e w' ⟨⟨v',rfl,⟨a,c,rfl,_⟩⟩,hb⟩;exact⟨⟨_,_,_,_,_,_,_,rfl,rfl,fun _=>rfl⟩,hb⟩
end Go.Proofs.Rm
