/- Part of a proof. -/
import Derived.Test.YtpdjhlcbcomdkaaGreatDoorW11
set_option linter.unusedVariables false
set_option linter.unusedSimpArgs false
set_option maxRecDepth 100000
set_option maxHeartbeats 16000000
open Go Go.Q Go.Qr
namespace Go.Proofs.By
open Go.RowKit Go.Proofs.Heap
open Go.Proofs.Rm (YG YD Room ZT Inv Wm YO)
open Go.Proofs.Od (Xz)
open Go.Proofs.Mem
theorem Yd.fr {w w':World} {g b:Nat} {R:Room} {ep:Int} {S:Nat→Prop} (h:Yd w g b R ep) (hf:Fr w S w w') (hd:¬S g) (hb:¬S b) (hS:∀ k c fr,S k→w.heap[k]?≠some (.cells c 66 fr)):Yd w' g b R ep:=
 ⟨(hf.block g (ZV h.Za) hd).trans h.Za,h.room.fr hf (Zw _) hb hS⟩
open Go.Proofs.Rm (aL Xm Dg SQ Wa Hv TQ X5 turns)
structure VG where
 x:aL
 b:List UInt8
structure KY (w:World) (v:Value) (L:List VG):Prop where
 row:Row w 32 v L.length (L.flatMap fun y=>Xm y.x)
 each:∀ y∈L,Row w 66 (.slice y.x.sa y.x.o.ZK.length y.x.sc) y.x.o.ZK.length (YO y.x.o.ZK)∧Row w 5 (.slice y.x.ba y.x.bl y.x.bc) y.b.length (RX y.b)∧y.x.o.name.length<9223372036854775807
theorem KY.below {w w':World} {v:Value} {L:List VG} (h:KY w v L) (hb:Below w w w'):KY w' v L:=⟨h.row.below hb,fun y hy=>⟨(h.each y hy).1.below hb,(h.each y hy).2.1.below hb,(h.each y hy).2.2⟩⟩
theorem KY.fr {w w':World} {v:Value} {L:List VG} {S:Nat→Prop} (h:KY w v L) (hf:Fr w S w w') (hS:KR w S):KY w' v L:=
 ⟨Row.fr h.row hf (Zw _) (hS.ne Zi),fun y hy=>⟨Row.fr (h.each y hy).1 hf (Zw _) (hS.ne Zi),Row.fr (h.each y hy).2.1 hf (Zw _) (hS.ne Zi),(h.each y hy).2.2⟩⟩
def bt:List UInt8:=[128,96,0,7,0,0,0,50,0,0,0,10,192,90,0,9,5]
def dv:Nat→Rm.Op
 | 0=>⟨2,1,0,0,[97,110,110],[]⟩
 | 1=>⟨2,2,0,0,[98,111,98],[]⟩
 | 2=>⟨4,1,3,0,[],[10,11]⟩
 | 3=>⟨6,2,3,0,[],[]⟩
 | _=>⟨1,1,0,0,[],[]⟩
def Gu (h:Nat):List VG:=[⟨⟨dv 0,none,0,none,0,0⟩,[]⟩,⟨⟨dv 1,none,0,none,0,0⟩,[]⟩,⟨⟨dv 2,some ⟨h,0,none⟩,2,none,0,0⟩,[]⟩,⟨⟨dv 3,none,0,none,0,0⟩,[]⟩,⟨⟨dv 4,none,0,some ⟨h+1,0,none⟩,17,17⟩,bt⟩]
theorem xM (w:World):Calls Tryz.prog 68 (Qt 7 10) w fun e w'=>e = .returned (.slice (some ⟨w,0,none⟩) 17 17)∧w'=w.alloc (.cells (RX bt).toArray 5):=by
 go_enter Tryz.func68,Tryz.ntmps68
 go_wp2
 go_ret
 exact ⟨rfl,rfl⟩
theorem D8 (w:World):Calls Tryz.prog 39 #[] w fun e w'=>e = .returned (.slice (some ⟨w.heap.size+2,0,none⟩) 5 5)∧KY w' (.slice (some ⟨w.heap.size+2,0,none⟩) 5 5) (Gu w.heap.size)∧Below w w w':=by
 have C:=Zh xM
 go_enter Tryz.func39,Tryz.ntmps39
 go_wp2_with (go_at_call 68;refine (C.o _).mono ?_;rintro e w2 ⟨rfl,rfl⟩)
 exact Yx33
end Go.Proofs.By
namespace Go.Proofs.By
open Go.Proofs.Rm (Room YD VK of YS Ze Wm Zx Inv Mt Pk Wa NI)
structure Te (i:RF):Prop where
 m0:0≤i.X7
 m1:i.X7<4294967296
 g:i.gone.length≤128
 b:i.blocks.length≤128
 p:i.XF.length≤128
theorem WX (b:List UInt8) (p:Int):get b p 4<4294967296:=by
 unfold get
 split
 ·exact di nL
 ·decide
theorem Py:Te XX:=⟨by decide,by decide,by decide,by decide,by decide⟩
theorem ub (b:List UInt8):Te (report b):=⟨by show (0:Int)≤0;decide,by show (0:Int)<4294967296;decide,Tw _,by show ((List.range (at8 b 0 % 32)).map _).length≤128;rw [Tx,List.length_range];omega,Tw _⟩
theorem ED {b:List UInt8} (h:b.length≤512) (p:Nat):(XY b p).length≤128:=by unfold XY;rw [Tx,List.length_range];omega
theorem qq {b:List UInt8} (h:b.length≤512) (k:Nat):Te (parts b k):=by
 unfold parts
 by_cases h1:k=203
 ·rw [ZQ h1]
  exact ⟨by show (0:Int)≤0;decide,by show (0:Int)<4294967296;decide,by show ((XY b 4).map _).length≤128;rw [Tx];exact ED h 4,Tw _,Tw _⟩
 ·rw [Z4 h1]
  have hg:=WX b 8
  exact ⟨by show (0:Int)≤(get b 8 4:Int);omega,by show (get b 8 4:Int)<4294967296;omega,Tw _,Tw _,by show ((XY b 12).map _).length≤128;rw [Tx];exact ED h 12⟩
theorem G5 {b:List UInt8} (h:b.length≤512):Te (Y7 b).1.1:=by
 unfold Y7
 split
 ·exact Py
 split
 ·exact Py
 split
 ·exact Py
 split
 ·unfold X4
  split
  ·exact Py
  ·exact ub b
 dsimp only
 split
 ·exact Py
 split
 ·exact Py
 ·exact qq nL _
theorem G6:∀ (k:Nat) (b:List UInt8),b.length≤512→(∀ i∈(YE k b).1,Te i)∧(YE k b).1.length≤k
 | 0,b,h=>⟨fun i hi=>(by cases hi),Zw _⟩
 | k+1,b,h=>by
  unfold YE
  split
  ·exact ⟨fun i hi=>(by cases hi),Tw _⟩
  split
  ·exact ⟨fun i hi=>by rw [Kc] at hi;subst hi;exact G5 h,by show 1≤k+1;omega⟩
  have ih:=G6 k (b.drop (Y7 b).1.2) (by rw [Rx];omega)
  dsimp only
  split
  ·exact ⟨fun i hi=>(by cases hi),Tw _⟩
  ·refine ⟨fun i hi=>?_,by rw [List.length_cons];exact Nat.succ_le_succ ih.2⟩
   rcases Mg.1 hi with rfl|hi
   ·exact G5 h
   ·exact ih.1 i hi
theorem Ss (b:List UInt8):(∀ i∈(Ym b).1,Te i)∧(Ym b).1.length≤8:=by
 unfold Ym
 split
 ·exact ⟨fun i hi=>(by cases hi),Tw _⟩
 ·exact G6 8 b Zo
theorem Nj {b:List UInt8} (h3:192≤at8 b 1∧at8 b 1≤223) (h:(XJ b).2=0):(XJ b).1 = .XV (Ym b).1:=by
 unfold XJ at h ⊢
 by_cases h1:512<b.length
 ·rw [ZQ h1] at h;cases h
 rw [Z4 h1] at h ⊢
 by_cases h2:b.length<2
 ·rw [ZQ h2] at h;cases h
 rw [Z4 h2,ZQ h3] at h ⊢
 by_cases h4:(Ym b).2≠0
 ·rw [ZQ h4] at h;exact absurd h h4
 ·rw [Z4 h4]
theorem Mm (R:Room) (p x:Int):(YS R p x).1.1.length≤18:=by
 unfold YS
 split
 ·exact Tw _
 ·exact Pk _ _
theorem wI (e:Int):0≤wH e∧wH e≤1:=by unfold wH;split <;> omega
theorem Ra (peer:Int):∀ (l:List Int) (R:Room),Inv R→Wa R→Inv (Zg peer l R).1.2∧Wa (Zg peer l R).1.2∧(Zg peer l R).1.1.length≤18*l.length∧0≤(Zg peer l R).2∧(Zg peer l R).2≤l.length
 | [],R,h,hs=>⟨h,hs,Zw _,Int.le_refl _,Int.le_refl _⟩
 | x :: l,R,h,hs=>by
  have ih:=Ra peer l (YS R peer x).1.2 (Mt h peer x) (NI hs peer x)
  have h1:=Mm R peer x
  have h2:=wI (YS R peer x).2
  unfold Zg
  refine ⟨ih.1,ih.2.1,?_,?_,?_⟩
  ·show ((YS R peer x).1.1++_).length≤_
   rw [UM,List.length_cons];have:=ih.2.2.1;omega
  ·show 0≤wH _+_;have:=ih.2.2.2.1;omega
  ·show wH _+_≤((l.length+1:Nat):Int);have:=ih.2.2.2.2;omega
theorem Kp {R:Room} (h:Inv R) (hs:Wa R) (peer:Int) {i:RF} (hi:Te i):Inv (Yj R peer i).1.2∧Wa (Yj R peer i).1.2∧(Yj R peer i).1.1.length≤3000∧0≤(Yj R peer i).2∧(Yj R peer i).2≤1000:=by
 unfold Yj
 split
 ·exact ⟨h,hs,Tw _,by dsimp only;split <;> omega,by dsimp only;split <;> omega⟩
 split
 ·exact ⟨h,hs,Tw _,by dsimp only;split <;> omega,by dsimp only;split <;> omega⟩
 split
 ·have:=Ra peer i.gone R h hs
  have hg:=hi.g
  exact ⟨this.1,this.2.1,Zo,this.2.2.2.1,Zo⟩
 ·exact ⟨h,hs,Tw _,Int.le_refl _,by show (0:Int)≤1000;decide⟩
theorem Rg (peer:Int):∀ (l:List RF) (R:Room),Inv R→Wa R→(∀ i∈l,Te i)→Inv (ZE peer l R).1.2∧Wa (ZE peer l R).1.2∧(ZE peer l R).1.1.length≤3000*l.length∧0≤(ZE peer l R).2∧(ZE peer l R).2≤1000*l.length
 | [],R,h,hs,hi=>⟨h,hs,Zw _,Int.le_refl _,Int.le_refl _⟩
 | x :: l,R,h,hs,hi=>by
  have h1:=Kp h hs peer (hi x (List.mem_cons_self ..))
  have ih:=Rg peer l (Yj R peer x).1.2 h1.1 h1.2.1 (fun i h=>hi i (List.mem_cons_of_mem _ h))
  unfold ZE
  refine ⟨ih.1,ih.2.1,?_,?_,?_⟩
  ·show ((Yj R peer x).1.1++_).length≤_
   rw [UM,List.length_cons];have:=ih.2.2.1;omega
  ·show 0≤(Yj R peer x).2+_;have:=ih.2.2.2.1;omega
  ·show (Yj R peer x).2+_≤((1000:Int)*((l.length+1:Nat):Int));have:=ih.2.2.2.2;omega
theorem zV {R:Room} (h:Inv R) (hs:Wa R) (ep p:Int) (l:List UInt8):Inv (YF R ep p l).1.2∧Wa (YF R ep p l).1.2∧0≤(YF R ep p l).1.1.unknown∧(YF R ep p l).1.1.unknown≤8000∧ep≤(YF R ep p l).2∧(YF R ep p l).2≤ep+1:=by
 unfold YF
 by_cases h1:(XJ l).2≠0
 ·rw [ZQ h1];exact ⟨h,hs,by show (0:Int)≤0;decide,by show (0:Int)≤8000;decide,Int.le_refl _,by show ep≤ep+1;omega⟩
 rw [Z4 h1]
 by_cases h2:(!Ze R p)=true
 ·rw [ZQ h2];exact ⟨h,hs,by show (0:Int)≤0;decide,by show (0:Int)≤8000;decide,Int.le_refl _,by show ep≤ep+1;omega⟩
 rw [Z4 h2]
 by_cases h3:192≤at8 l 1∧at8 l 1≤223
 ·rw [Nj h3 Zo]
  have hk:=Ss l
  have:=Rg p (Ym l).1 R h hs hk.1
  exact ⟨this.1,this.2.1,this.2.2.2.1,by show (ZE p (Ym l).1 R).2≤8000;omega,by show ep≤ep+1;omega,Int.le_refl _⟩
 ·rcases pI:(XJ l).1 with _|⟨P,d⟩|fl
  ·exact ⟨h,hs,by show (0:Int)≤0;decide,by show (0:Int)≤8000;decide,by show ep≤ep+1;omega,Int.le_refl _⟩
  ·dsimp only
   refine ⟨h,hs,?_,?_,Int.le_refl _,Zo⟩
   ·unfold Vd;split <;> (show (0:Int)≤0;decide)
   ·unfold Vd;split <;> (show (0:Int)≤8000;decide)
  ·exfalso
   unfold XJ at pI
   rw [Z4 h3] at pI
   split at pI
   ·cases pI
   split at pI
   ·cases pI
   split at pI
   ·cases pI
   split at pI
   ·cases pI
   ·cases pI
open Go.Proofs.Rm (Dg Hv LC Nc zY gone SQ TQ)
theorem He (R:Room) (p x:Int):owned R.bare p x=owned R p x:=by
 unfold owned
 rw [LC]
 rfl
theorem Aa (R:Room) (p x:Int):YS R.bare p x=(((YS R p x).1.1,(YS R p x).1.2.bare),(YS R p x).2):=by
 have h1:Ze R.bare p=Ze R p:=rfl
 have h2:∀ n,(R.bare.src n).own=(R.src n).own:=fun _=>rfl
 unfold YS
 rw [LC,h1,h2,Nc]
 split <;> rfl
theorem Le (p:Int):∀ (l:List Int) (R:Room),Zg p l R.bare=(((Zg p l R).1.1,(Zg p l R).1.2.bare),(Zg p l R).2)
 | [],R=>rfl
 | x :: l,R=>by
  unfold Zg
  rw [Aa]
  dsimp only
  rw [Le p l]
theorem Ax (R:Room) (p:Int) (i:RF):Yj R.bare p i=(((Yj R p i).1.1,(Yj R p i).1.2.bare),(Yj R p i).2):=by
 have h1:UG R.bare p i.X7=UG R p i.X7:=rfl
 unfold Yj
 rw [He,h1,Le]
 split
 ·rfl
 split
 ·rfl
 split <;> rfl
theorem Lr (p:Int):∀ (l:List RF) (R:Room),ZE p l R.bare=(((ZE p l R).1.1,(ZE p l R).1.2.bare),(ZE p l R).2)
 | [],R=>rfl
 | x :: l,R=>by
  unfold ZE
  rw [Ax]
  dsimp only
  rw [Lr p l]
theorem AL (R:Room) (ep p:Int) (P:KZ) (d:F3):Vd R.bare ep p P d=Vd R ep p P d:=by
 unfold Vd
 rw [He,LC]
theorem Fq (R:Room) (ep p:Int) (l:List UInt8):YF R.bare ep p l=(((YF R ep p l).1.1,(YF R ep p l).1.2.bare),(YF R ep p l).2):=by
 have h1:Ze R.bare p=Ze R p:=rfl
 unfold YF
 rw [h1]
 split
 ·rfl
 split
 ·rfl
 cases (XJ l).1 with
 | none=>rfl
 | X7 P d=>dsimp only;rw [AL]
 | XV fl=>dsimp only;rw [Lr]
theorem uj (R:Room) (ep:Int) (o:Rm.Op) (l:List UInt8) (sv BF:Value):(take R.bare ep o l BF).1.1=(take R ep o l sv).1.1∧(take R.bare ep o l BF).1.2.bare=(take R ep o l sv).1.2.bare∧(take R.bare ep o l BF).2=(take R ep o l sv).2:=by
 unfold take
 by_cases h:o.kind=1
 ·rw [ZQ h,ZQ h,Fq]
  exact ⟨rfl,rfl,rfl⟩
 ·rw [Z4 h,Z4 h]
  obtain ⟨h1,h2,h3⟩:=zY R o sv BF
  rw [h2]
  by_cases h4:(Wm R o sv).2≠0
  ·rw [ZQ h4,ZQ h4];exact ⟨rfl,rfl,rfl⟩
  ·rw [Z4 h4,Z4 h4]
   dsimp only
   rw [h1]
   exact ⟨rfl,h3,rfl⟩
theorem vJ {R:Room} (h:Inv R) (hs:Wa R) (ep:Int) (o:Rm.Op) (l:List UInt8) (sv:Value):Inv (take R ep o l sv).1.2∧Wa (take R ep o l sv).1.2∧0≤(take R ep o l sv).1.1.unknown∧(take R ep o l sv).1.1.unknown≤8000∧ep≤(take R ep o l sv).2∧(take R ep o l sv).2≤ep+1:=by
 unfold take
 split
 ·exact zV h hs ep o.peer l
 split
 ·exact ⟨h,hs,by show (0:Int)≤0;decide,by show (0:Int)≤8000;decide,Int.le_refl _,by show ep≤ep+1;omega⟩
 ·exact ⟨Dg h o sv,Hv hs o sv,by show (0:Int)≤0;decide,by show (0:Int)≤8000;decide,by show ep≤ep+1;omega,Int.le_refl _⟩
theorem yt (R:Room) (ep:Int) (o:Rm.Op) (l:List UInt8) (sv:Value):((take R ep o l sv).1.1.XE.kind=2∧(take R ep o l sv).1.1.XE.Oj=ep+1∧(take R ep o l sv).2=ep+1)∨((take R ep o l sv).1.1.XE.kind≠2∧(take R ep o l sv).2=ep∧((take R ep o l sv).1.1.XE.kind=1→(take R ep o l sv).1.1.XE.Oj=ep)):=by
 unfold take
 split
 ·unfold YF
  split
  ·exact Wi ⟨by show (3:Int)≠2;decide,rfl,fun h=>absurd h (by show (3:Int)≠1;decide)⟩
  split
  ·exact Wi ⟨by show (4:Int)≠2;decide,rfl,fun h=>absurd h (by show (4:Int)≠1;decide)⟩
  cases (XJ l).1 with
  | none=>exact Ww ⟨rfl,rfl,rfl⟩
  | X7 P d=>
   dsimp only
   unfold Vd
   split
   ·exact Wi ⟨by show (1:Int)≠2;decide,rfl,fun _=>rfl⟩
   ·exact Wi ⟨by show (5:Int)≠2;decide,rfl,fun h=>absurd h (by show (5:Int)≠1;decide)⟩
  | XV fl=>exact Ww ⟨rfl,rfl,rfl⟩
 split
 ·exact Wi ⟨by show (6:Int)≠2;decide,rfl,fun h=>absurd h (by show (6:Int)≠1;decide)⟩
 ·exact Ww ⟨rfl,rfl,rfl⟩
def WW (L:List VG):Nat→Room × Int
 | 0=>(Rm.empty,0)
 | k+1=>match L[k]? with
  | none=>WW L k
  | some y=>((take (WW L k).1 (WW L k).2 y.x.o y.b (.slice none 0 0)).1.2.bare,(take (WW L k).1 (WW L k).2 y.x.o y.b (.slice none 0 0)).2)
def ZX (L:List VG) (k:Nat):Taken:=match L[k]? with
 | none=>UJ
 | some y=>(take (WW L k).1 (WW L k).2 y.x.o y.b (.slice none 0 0)).1.1
theorem A8 {L:List VG} {k:Nat} {y:VG} {R:Room} {ep:Int} (hy:L[k]?=some y) (hR:R.bare=(WW L k).1) (he:ep=(WW L k).2) (sv:Value) :
  (take R ep y.x.o y.b sv).1.1=ZX L k∧(take R ep y.x.o y.b sv).1.2.bare=(WW L (k+1)).1∧(take R ep y.x.o y.b sv).2=(WW L (k+1)).2:=by
 obtain ⟨h1,h2,h3⟩:=uj R ep y.x.o y.b sv (.slice none 0 0)
 rw [hR,he] at h1 h2 h3
 have e1:ZX L k=(take (WW L k).1 (WW L k).2 y.x.o y.b (.slice none 0 0)).1.1:=by unfold ZX;rw [hy]
 have e2:WW L (k+1)=((take (WW L k).1 (WW L k).2 y.x.o y.b (.slice none 0 0)).1.2.bare,(take (WW L k).1 (WW L k).2 y.x.o y.b (.slice none 0 0)).2):=by
  conv=>lhs;unfold WW
  rw [hy]
 rw [e1,e2,he]
 exact ⟨h1.symm,h2.symm,h3.symm⟩
theorem E1 {L:List VG} {k:Nat} (hk:k<L.length):((ZX L k).XE.kind=2∧(ZX L k).XE.Oj=(WW L k).2+1∧(WW L (k+1)).2=(WW L k).2+1)∨((ZX L k).XE.kind≠2∧(WW L (k+1)).2=(WW L k).2∧((ZX L k).XE.kind=1→(ZX L k).XE.Oj=(WW L k).2)):=by
 have hy:L[k]?=some L[k]:=U7 hk
 have e1:ZX L k=(take (WW L k).1 (WW L k).2 L[k].x.o L[k].b (.slice none 0 0)).1.1:=by unfold ZX;rw [hy]
 have e2:(WW L (k+1)).2=(take (WW L k).1 (WW L k).2 L[k].x.o L[k].b (.slice none 0 0)).2:=by
  conv=>lhs;unfold WW
  rw [hy]
 rw [e1,e2]
 exact yt _ _ _ _ _
theorem KE (L:List VG):∀ k,0≤(WW L k).2∧(WW L k).2≤k
 | 0=>⟨Int.le_refl _,Int.le_refl _⟩
 | k+1=>by
  have ih:=KE L k
  by_cases hk:k<L.length
  ·rcases E1 hk with ⟨_,_,h⟩|⟨_,h,_⟩ <;> (rw [h];omega)
  ·have e2:WW L (k+1)=WW L k:=by
    conv=>lhs;unfold WW
    rw [List.getElem?_eq_none Zo]
   rw [e2];omega
end Go.Proofs.By
namespace Go.Proofs.By
open Go.Proofs.Rm (YD)
structure Zq where
 peer:Int
 source:Int
 Kf:Int
 fin:Int
deriving DecidableEq
def Wz:Zq:=⟨0,0,0,0⟩
def Yg (p s at':Int) (ls:List Zq):Nat→List Zq
 | 0=>ls
 | k+1=>if (ls.getD k Wz).peer=p∧(ls.getD k Wz).source=s then ls.set k {ls.getD k Wz with fin:=at'} else Yg p s at' ls k
def Yb (n at':Int) (ls:List Zq) (t:YD):List Zq:=
 if t.kind=1 then ls++[⟨t.peer,t.source,at',n⟩]
 else if t.kind=2 then Yg t.peer t.source at' ls ls.length
 else ls
theorem Ee (p s at':Int) (ls:List Zq):∀ k,(Yg p s at' ls k).length=ls.length
 | 0=>rfl
 | k+1=>by
  unfold Yg
  split
  ·rw [List.length_set]
  ·exact Ee p s at' ls k
theorem Dh (n at':Int) (ls:List Zq) (t:YD):(Yb n at' ls t).length≤ls.length+1:=by
 unfold Yb
 split
 ·rw [UM];exact Zw _
 split
 ·rw [Ee];omega
 ·omega
def WY (n at':Int) (ls:List Zq) (ts:List YD):List Zq:=ts.foldl (Yb n at') ls
theorem Di (n at':Int) (ls:List Zq) (ts:List YD) (t:YD):WY n at' ls (ts++[t])=Yb n at' (WY n at' ls ts) t:=by
 unfold WY
 rw [List.foldl_append]
 rfl
theorem NG (n at':Int):∀ (ts:List YD) (ls:List Zq),(WY n at' ls ts).length≤ls.length+ts.length
 | [],ls=>Zw _
 | t :: ts,ls=>by
  have h1:=NG n at' ts (Yb n at' ls t)
  have h2:=Dh n at' ls t
  show (WY n at' (Yb n at' ls t) ts).length≤_
  rw [List.length_cons]
  omega
def X8 (L:List VG) (n:Int):Nat→List Zq
 | 0=>[]
 | k+1=>WY n k (X8 L n k) (ZX L k).turns
def XA (L:List VG) (k:Nat):List FZ:=(List.range k).map fun j=>(ZX L j).XE
theorem Jz (L:List VG) (k:Nat):XA L (k+1)=XA L k++[(ZX L k).XE]:=by unfold XA;rw [ru,N7];rfl
theorem Xa (L:List VG) (k:Nat):(XA L k).length=k:=by unfold XA;rw [Tx,List.length_range]
end Go.Proofs.By
namespace Go.Proofs.Rm
abbrev Open:=Int × Int→Bool
def QR (t:YD):Int × Int:=(t.peer,t.source)
def ou (S:Open) (t:YD):Bool:=(decide (t.kind=9) || (VK t.peer 9 && VK t.source 9)) && if t.kind=1 then !S (QR t) else if t.kind=2 then S (QR t) else if t.kind=9 then true else S (QR t)
theorem Gv {S:Open} {t:YD} {p n:Nat} (hp:t.peer=p) (hn:t.source=n) (h1:1≤p) (h2:p<9) (h3:1≤n) (h4:n<9) (h:(if t.kind=1 then !S (QR t) else if t.kind=2 then S (QR t) else if t.kind=9 then true else S (QR t))=true):ou S t=true:=by
 unfold ou
 rw [h,hp,hn,(XW _ _).2 ⟨Zo,Zo⟩,(XW _ _).2 ⟨Zo,Zo⟩]
 simp
def W_ (S:Open) (t:YD):Open:=if t.kind=1 then fun x=>decide (x=QR t) || S x else if t.kind=2 then fun x=> !decide (x=QR t) && S x else S
def Ov (S:Open):List YD→Prop
 | []=>True
 | t :: l=>ou S t=true∧Ov (W_ S t) l
def Good (S:Open) (l:List YD) (S':Open):Prop:=Ov S l∧l.foldl W_ S=S'
theorem Good.nil (S:Open):Good S [] S:=⟨trivial,rfl⟩
theorem Good.cons {S S1 S':Open} {t:YD} {l:List YD} (h:ou S t=true) (h1:W_ S t=S1) (hl:Good S1 l S'):Good S (t :: l) S':=by
 subst h1
 exact ⟨⟨h,hl.1⟩,hl.2⟩
theorem MI:∀ (a:List YD) (S:Open) (b:List YD),Ov S a→Ov (a.foldl W_ S) b→Ov S (a++b)
 | [],_,_,_,h=>h
 | t :: a,S,b,h1,h2=>⟨h1.1,MI a (W_ S t) b h1.2 h2⟩
theorem Good.append {S S1 S':Open} {a b:List YD} (h1:Good S a S1) (h2:Good S1 b S'):Good S (a++b) S':=by
 obtain ⟨h1,rfl⟩:=h1
 exact ⟨MI a S b h1 h2.1,by rw [List.foldl_append];exact h2.2⟩
theorem D6:∀ (l:List YD) (S:Open),Ov S l→∀ (i:Nat) (h:i<l.length),ou ((l.take i).foldl W_ S) l[i]=true
 | t :: l,S,h,0,_=>h.1
 | t :: l,S,h,i+1,hi=>D6 l (W_ S t) h.2 i (by simpa using hi)
theorem Good.step {S S':Open} {l:List YD} (h:Good S l S') (i:Nat) (hi:i<l.length):ou ((l.take i).foldl W_ S) l[i]=true∧(l.take (i+1)).foldl W_ S=W_ ((l.take i).foldl W_ S) l[i]:=
 ⟨D6 l S h.1 i hi,by rw [List.take_succ_eq_append_getElem hi,List.foldl_append];rfl⟩
theorem SM {S:Open}:∀ (l:List YD),(∀ t∈l,t.kind≠1∧t.kind≠2∧(t.kind=9∨(S (QR t)=true∧VK t.peer 9=true∧VK t.source 9=true)))→Good S l S
 | [],_=>Good.nil S
 | t :: l,h=>by
  obtain ⟨h1,h2,h3⟩:=h t Zi
  refine Good.cons ?_ (by unfold W_;rw [Z4 h1,Z4 h2]) (SM l fun x hx=>h x (by simp [hx]))
  unfold ou
  rw [Z4 h1,Z4 h2]
  rcases h3 with h9|⟨a,b,c⟩
  ·rw [ZQ h9,We h9];rfl
  ·rw [a,b,c]
   split <;> simp
def opens (R:Room):Open:=fun x=>Zx R x.1 x.2
theorem Pz {R:Room} {x:Int × Int}:opens R x=true↔∃ p n:Nat,x=((p:Int),(n:Int))∧1≤p∧p<9∧1≤n∧n<9∧(R.sub n p).there=true:=by
 obtain ⟨a,b⟩:=x
 unfold opens Zx
 simp only [TU,XW]
 constructor
 ·rintro ⟨⟨h1,h2⟩,h3⟩
  exact ⟨a.toNat,b.toNat,by rw [Int.toNat_of_nonneg Zo,Int.toNat_of_nonneg Zo],Zo,Zo,Zo,Zo,h3⟩
 ·rintro ⟨p,n,e,h1,h2,h3,h4,h5⟩
  simp only [Prod.mk.injEq] at e
  obtain ⟨rfl,rfl⟩:=e
  rw [Wv,Wv]
  exact ⟨⟨⟨Zo,Zo⟩,Zo,Zo⟩,h5⟩
theorem Sv {R:Room} {p n:Nat} (h1:1≤p) (h2:p<9) (h3:1≤n) (h4:n<9):opens R ((p:Int),(n:Int))=(R.sub n p).there:=by
 show Zx R p n=_
 unfold Zx
 rw [(XW _ _).2 ⟨Zo,Zo⟩,(XW _ _).2 ⟨Zo,Zo⟩,Wv,Wv]
 simp
theorem EP {R':Room} {f:Int × Int→Bool} (h:∀ p n:Nat,1≤p→p<9→1≤n→n<9→(R'.sub n p).there=f ((p:Int),(n:Int))) (h0:∀ x,f x=true→∃ p n:Nat,x=((p:Int),(n:Int))∧1≤p∧p<9∧1≤n∧n<9):opens R'=f:=by
 funext x
 rw [Bool.eq_iff_iff]
 constructor
 ·intro hx
  obtain ⟨p,n,rfl,h1,h2,h3,h4,h5⟩:=Pz.1 hx
  rw [←h p n h1 h2 h3 h4];exact h5
 ·intro hx
  obtain ⟨p,n,rfl,h1,h2,h3,h4⟩:=h0 x hx
  rw [Pz]
  exact ⟨p,n,rfl,h1,h2,h3,h4,by rw [h p n h1 h2 h3 h4];exact hx⟩
theorem AR {R:Room} {x:Int × Int} (h:opens R x=true):∃ p n:Nat,x=((p:Int),(n:Int))∧1≤p∧p<9∧1≤n∧n<9:=by
 obtain ⟨p,n,e,h1,h2,h3,h4,_⟩:=Pz.1 h
 exact ⟨p,n,e,h1,h2,h3,h4⟩
theorem vE (p q n m:Nat):decide (((p:Int),(n:Int))=((q:Int),(m:Int)))=(decide (n=m) && decide (p=q)):=by
 rw [Bool.eq_iff_iff]
 simp
 omega
theorem Kt (R:Room) (n p:Nat):opens (R.ZP n p Ve)=fun x=> !decide (x=((p:Int),(n:Int))) && opens R x:=by
 refine EP (fun q m h1 h2 h3 h4=>?_) (fun x hx=>AR (Bool.and_eq_true_iff.1 hx).2)
 show _=(!decide (((q:Int),(m:Int))=((p:Int),(n:Int))) && opens R ((q:Int),(m:Int)))
 rw [vE,Sv h1 h2 h3 h4,VP]
 by_cases e:m=n∧q=p
 ·rw [ZQ e,We e.1,We e.2];rfl
 ·exact gQ
theorem AU (R:Room) {n p:Nat} (x:Sub) (hx:x.there=true) (h1:1≤p) (h2:p<9) (h3:1≤n) (h4:n<9):opens (R.ZP n p x)=fun y=>decide (y=((p:Int),(n:Int))) || opens R y:=by
 refine EP (fun q m a1 a2 a3 a4=>?_) (fun y hy=>?_)
 ·show _=(decide (((q:Int),(m:Int))=((p:Int),(n:Int))) || opens R ((q:Int),(m:Int)))
  rw [vE,Sv a1 a2 a3 a4,VP]
  by_cases e:m=n∧q=p
  ·rw [ZQ e,We e.1,We e.2,hx];rfl
  ·exact gQ
 ·rcases Bool.or_eq_true_iff.1 hy with h|h
  ·exact ⟨p,n,of_decide_eq_true h,h1,h2,h3,h4⟩
  ·exact AR (R:=R) h
theorem xK {R R':Room} (h:∀ n p,(R'.sub n p).there=(R.sub n p).there):opens R'=opens R:=by
 funext x
 unfold opens Zx
 rw [h]
theorem Mw (R:Room) (n p:Nat) (x:Sub) (hx:x.there=(R.sub n p).there):opens (R.ZP n p x)=opens R:=by
 refine xK fun m q=>?_
 rw [VP]
 split
 ·rename_i e;rw [e.1,e.2];exact hx
 ·rfl
theorem JH (n:Nat) (hn:1≤n∧n<9):∀ (l:List Nat) (R:Room),l.Nodup→(∀ p∈l,1≤p∧p<9∧(R.sub n p).there=true)→Good (opens R) (Xp n l R).1 (opens (Xp n l R).2)
 | [],R,_,_=>Good.nil _
 | p :: l,R,hd,hl=>by
  obtain ⟨h1,h2,h3⟩:=hl p Zi
  have ho:opens R ((p:Int),(n:Int))=true:=by rw [Sv h1 h2 hn.1 hn.2];exact h3
  obtain ⟨hd1,rz⟩:=List.nodup_cons.1 hd
  refine Good.cons (S1:=opens R) (Gv (p:=p) (n:=n) rfl rfl h1 h2 hn.1 hn.2 ho) rfl (Good.cons (S1:=opens (R.ZP n p Ve)) (Gv (p:=p) (n:=n) rfl rfl h1 h2 hn.1 hn.2 ho) (by rw [Kt];rfl) (JH n hn l _ rz fun q hq=>?_))
  obtain ⟨a1,a2,a3⟩:=hl q (by simp [hq])
  refine ⟨a1,a2,?_⟩
  rw [VP,Z4 (fun e:n=n∧q=p=>hd1 (e.2▸hq))]
  exact a3
theorem yq (R:Room) (n:Int):(Z5 R n).Nodup:=List.Pairwise.filter _ List.nodup_range
theorem Kl (R:Room) {n:Nat} (hn:1≤n∧n<9):Good (opens R) (gone R n).1 (opens (gone R n).2):=by
 have h:=JH n hn (Z5 R n) R (yq R n) (fun p hp=>by
  obtain ⟨h1,h2,_,_,h5⟩:=Px.1 hp
  exact ⟨h1,h2,h5⟩)
 exact h
theorem JW (R:Room) (hI:Inv R) (p:Nat) (hp:1≤p∧p<9):∀ k,Good (opens R) (ZM p R k).1 (opens (ZM p R k).2)
 | 0=>Good.nil _
 | k+1=>by
  have ih:=JW R hI p hp k
  unfold ZM
  dsimp only
  split
  ·rename_i ht
   have hk:=(Rf hI p k).Zb k p ht
   refine ih.append (Good.cons ?_ ?_ (Good.nil _))
   ·refine Gv (p:=p) (n:=k) rfl rfl hp.1 hp.2 hk.1 hk.2.1 ?_
    show opens (ZM p R k).2 ((p:Int),(k:Int))=true
    rw [Sv hp.1 hp.2 hk.1 hk.2.1];exact ht
   ·rw [Kt];rfl
  ·exact ih
theorem JY (R:Room) (hI:Inv R) (p:Nat):∀ k,Good (opens R) (ZI R p k).1 (opens (ZI R p k).2)
 | 0=>Good.nil _
 | k+1=>by
  have ih:=JY R hI p k
  unfold ZI
  dsimp only
  split
  ·rename_i ht
   have hk:=hI.YU k (Bool.and_eq_true_iff.1 ht).1
   exact ih.append (Kl _ ⟨hk.1,hk.2.1⟩)
  ·exact ih
theorem xC (R:Room) (hI:Inv R) (p:Nat) (hp:1≤p∧p<9):Good (opens R) (leave R p).1 (opens (leave R p).2):=
 (JW R hI p hp 9).append (JY _ (Rf hI p 9) p 9)
theorem Bp {R:Room} {S:Open} {n p:Nat}:∀ t∈waits R p n,t.kind≠1∧t.kind≠2∧(t.kind=9∨(S (QR t)=true∧VK t.peer 9=true∧VK t.source 9=true)):=by
 intro t ht
 unfold waits at ht
 split at ht
 ·cases ht
 ·rw [Kc] at ht
  subst ht
  exact ⟨by simp [asks],by simp [asks],Ww rfl⟩
theorem EJ (R:Room) {n:Nat} (on:Bool):Good (opens R) (mute R n on).1 (opens (mute R n on).2):=by
 have e:opens (mute R n on).2=opens R:=rfl
 rw [e]
 refine SM _ fun t ht=>?_
 obtain ⟨p,hp,ht⟩:=List.mem_flatMap.1 ht
 obtain ⟨h1,h2,h3,h4,h5⟩:=Px.1 hp
 have ho:opens R ((p:Int),(n:Int))=true:=by
  rw [←e,Pz]
  exact ⟨p,n,rfl,h1,h2,h3,h4,h5⟩
 have ho:opens R ((p:Int),(n:Int))=true∧VK (p:Int) 9=true∧VK (n:Int) 9=true:=⟨ho,(XW _ _).2 ⟨Zo,Zo⟩,(XW _ _).2 ⟨Zo,Zo⟩⟩
 unfold Y5 at ht
 split at ht
 ·rw [Kc] at ht
  subst ht
  exact ⟨by simp,by simp,Wi ho⟩
 ·exact cz
theorem yA {R:Room} {o:Op} (hI:Inv R) (ok:Ok R o) (sv:Value):Good (opens R) (turns R o sv).1 (opens (turns R o sv).2):=by
 obtain ⟨p,hp⟩:=QT (show 0≤o.peer by have:=ok.peer;omega)
 have Ew:1≤p∧p<9:=by have:=ok.peer;omega
 have ep:o.peer.toNat=p:=by rw [hp];rfl
 unfold turns
 dsimp only
 by_cases k2:o.kind=2
 ·rw [ZQ k2];exact Good.nil _
 rw [Z4 k2]
 by_cases k3:o.kind=3
 ·rw [ZQ k3,ep];exact xC R hI p Ew
 rw [Z4 k3]
 have k4':4≤o.kind:=by have:=ok.kind;omega
 obtain ⟨n,hn⟩:=QT (show 0≤o.source by have:=ok.src k4';omega)
 have F7:1≤n∧n<9:=by have:=ok.src k4';omega
 have en:o.source.toNat=n:=by rw [hn];rfl
 have kX:VK o.peer 9=true:=(XW _ _).2 ⟨Zo,Zo⟩
 have GW:VK o.source 9=true:=(XW _ _).2 ⟨Zo,Zo⟩
 rw [ep,en]
 by_cases k4:o.kind=4
 ·rw [ZQ k4];exact Good.nil _
 rw [Z4 k4]
 have k5':5≤o.kind:=by omega
 by_cases k5:o.kind=5
 ·rw [ZQ k5];exact Kl R F7
 rw [Z4 k5]
 by_cases k6:o.kind=6
 ·rw [ZQ k6]
  have hs:=(Pc (ok.abt k5') k6).2.1
  rw [ep,en] at hs
  have e1:=AU R (n:=n) (p:=p) ⟨true,false,o.ZF⟩ rfl Ew.1 Ew.2 F7.1 F7.2
  unfold begin
  dsimp only
  rw [ep,en]
  refine Good.cons (S1:=opens (R.ZP n p ⟨true,false,o.ZF⟩)) ?_ ?_ (SM _ fun t ht=>?_)
  ·refine Gv (p:=p) (n:=n) hp hn Ew.1 Ew.2 F7.1 F7.2 ?_
   show (!opens R (o.peer,o.source))=true
   rw [hp,hn,Sv Ew.1 Ew.2 F7.1 F7.2,hs];rfl
  ·rw [e1]
   unfold W_ QR
   rw [ZQ rfl]
   dsimp only
   rw [hp,hn]
  ·split at ht
   ·rw [Kc] at ht
    subst ht
    refine ⟨by simp,by simp,Wi ⟨?_,kX,GW⟩⟩
    show opens _ (o.peer,o.source)=true
    rw [hp,hn,Sv Ew.1 Ew.2 F7.1 F7.2,VP,ZQ ⟨rfl,rfl⟩]
   ·rw [Kc] at ht
    subst ht
    exact ⟨by simp [asks],by simp [asks],Ww rfl⟩
 rw [Z4 k6]
 by_cases k7:o.kind=7
 ·rw [ZQ k7]
  have hs:=(TL (ok.abt k5') (Ww k7)).1
  rw [ep,en] at hs
  refine Good.cons ?_ ?_ (Good.nil _)
  ·refine Gv (p:=p) (n:=n) hp hn Ew.1 Ew.2 F7.1 F7.2 ?_
   show opens R (o.peer,o.source)=true
   rw [hp,hn,Sv Ew.1 Ew.2 F7.1 F7.2];exact hs
  ·rw [Kt]
   unfold W_ QR
   rw [Z4 (show ¬(2:Int)=1 by decide),ZQ rfl]
   dsimp only
   rw [hp,hn]
 rw [Z4 k7]
 by_cases k8:o.kind=8
 ·rw [ZQ k8];exact EJ R true
 rw [Z4 k8]
 by_cases k9:o.kind=9
 ·rw [ZQ k9];exact EJ R false
 rw [Z4 k9]
 have hs:=(TL (ok.abt k5') (Wi Zo)).1
 rw [ep,en] at hs
 have ho:opens R (o.peer,o.source)=true∧VK o.peer 9=true∧VK o.source 9=true:=⟨by rw [hp,hn,Sv Ew.1 Ew.2 F7.1 F7.2];exact hs,kX,GW⟩
 by_cases k10:o.kind=10
 ·rw [ZQ k10]
  dsimp only
  rw [Mw R n p ⟨(R.sub n p).there,true,(R.sub n p).want⟩ rfl]
  refine SM _ fun t ht=>?_
  rw [Kc] at ht
  subst ht
  exact ⟨by simp,by simp,Wi ho⟩
 rw [Z4 k10]
 by_cases k11:o.kind=11
 ·rw [ZQ k11]
  dsimp only
  rw [Mw R n p ⟨(R.sub n p).there,false,(R.sub n p).want⟩ rfl]
  refine SM _ fun t ht=>?_
  exact cz
 rw [Z4 k11]
 by_cases k12:o.kind=12
 ·rw [ZQ k12]
  dsimp only
  rw [Mw R n p ⟨(R.sub n p).there,(R.sub n p).ZR,o.ZF⟩ rfl]
  refine SM _ fun t ht=>?_
  exact cz
 rw [Z4 k12]
 exact Good.nil _
theorem oD {R:Room} (hI:Inv R) (o:Op) (sv:Value):Good (opens R) (Wm R o sv).1.1 (opens (Wm R o sv).1.2):=by
 unfold Wm
 by_cases h0:X5 R o=0
 ·rw [Z4 (by simpa using h0)];exact yA hI (PT h0) sv
 ·rw [ZQ h0];exact Good.nil _
theorem J1:opens empty=fun _=>false:=by
 funext x
 rw [K4]
 intro h
 obtain ⟨p,n,_,_,_,_,_,h5⟩:=Pz.1 h
 cases h5
/-! ### all leave -/
end Go.Proofs.Rm
namespace Go.Proofs.By
open Go.Proofs.Rm (Room YD Inv Wa opens W_ Ov ou QR Zx YS Wm turns)
def WH (z:Zq):Int × Int:=(z.peer,z.source)
def XB (n at':Int) (dead:Int × Int→Bool) (ls:List Zq):List Zq:=ls.map fun z=>if z.fin=n∧dead (WH z)=true then {z with fin:=at'} else z
theorem TB {n at':Int} {dead:Int × Int→Bool} {ls:List Zq} (h:∀ z∈ls,z.fin=n→dead (WH z)=false):XB n at' dead ls=ls:=by
 unfold XB
 conv=>rhs;rw [←List.map_id ls]
 refine List.map_congr_left fun z hz=>?_
 by_cases hf:z.fin=n
 ·rw [Z4 (by rw [h z hz hf];simp)];rfl
 ·rw [Z4 (fun x=>hf x.1)];rfl
theorem GC {n at':Int} (Vc:at'≠n) (d1 d2:Int × Int→Bool) (ls:List Zq):XB n at' d2 (XB n at' d1 ls)=XB n at' (fun x=>d1 x || d2 x) ls:=by
 unfold XB
 rw [List.map_map]
 refine List.map_congr_left fun z _=>?_
 have hor:∀ b c:Bool,(b || c)=true↔b=true∨c=true:=fun b c=>by rw [Bool.or_eq_true]
 by_cases h1:z.fin=n∧d1 (WH z)=true
 ·have e1:(if z.fin=n∧d1 (WH z)=true then {z with fin:=at'} else z)={z with fin:=at'}:=ZQ h1
  have e2:(if z.fin=n∧(d1 (WH z) || d2 (WH z))=true then {z with fin:=at'} else z)={z with fin:=at'}:=ZQ ⟨h1.1,(hor _ _).2 (Ww h1.2)⟩
  show (fun z:Zq=>if z.fin=n∧d2 (WH z)=true then {z with fin:=at'} else z) (if z.fin=n∧d1 (WH z)=true then {z with fin:=at'} else z)=(if z.fin=n∧(d1 (WH z) || d2 (WH z))=true then {z with fin:=at'} else z)
  rw [e1,e2]
  exact Z4 (fun h=>Vc h.1)
 ·have e1:(if z.fin=n∧d1 (WH z)=true then {z with fin:=at'} else z)=z:=Z4 h1
  show (fun z:Zq=>if z.fin=n∧d2 (WH z)=true then {z with fin:=at'} else z) (if z.fin=n∧d1 (WH z)=true then {z with fin:=at'} else z)=(if z.fin=n∧(d1 (WH z) || d2 (WH z))=true then {z with fin:=at'} else z)
  rw [e1]
  by_cases h2:z.fin=n∧d2 (WH z)=true
  ·exact (ZQ h2).trans (ZQ ⟨h2.1,(hor _ _).2 (Wi h2.2)⟩).symm
  ·refine (Z4 h2).trans (Z4 ?_).symm
   rintro ⟨a,b⟩
   rcases (hor _ _).1 b with c|c
   ·exact h1 ⟨a,c⟩
   ·exact h2 ⟨a,c⟩
theorem RI {n at':Int} {d1 d2:Int × Int→Bool} {ls:List Zq} (h:∀ z∈ls,z.fin=n→d1 (WH z)=d2 (WH z)):XB n at' d1 ls=XB n at' d2 ls:=by
 unfold XB
 refine List.map_congr_left fun z hz=>?_
 by_cases hf:z.fin=n
 ·rw [h z hz hf]
 ·rw [Z4 (fun x=>hf x.1),Z4 (fun x=>hf x.1)]
structure LI (n:Int) (S:Rm.Open) (ls:List Zq):Prop where
 iff:∀ x,S x=true↔∃ z∈ls,WH z=x∧z.fin=n
 last:ls.Pairwise fun a b=>a.fin=n→WH b≠WH a
theorem LI.nil (n:Int):LI n (fun _=>false) []:=⟨fun x=>⟨fun h=>absurd h Zd,fun ⟨z,h,_⟩=>by cases h⟩,List.Pairwise.nil⟩
theorem LI.begin {n:Int} {S:Rm.Open} {ls:List Zq} (h:LI n S ls) (p s b:Int) (hS:S (p,s)=false):LI n (fun x=>decide (x=(p,s)) || S x) (ls++[⟨p,s,b,n⟩]):=by
 refine ⟨fun x=>?_,List.pairwise_append.2 ⟨h.last,List.pairwise_singleton _ _,fun a ha c hc hf he=>?_⟩⟩
 ·rw [Bool.or_eq_true,Oh,h.iff x]
  constructor
  ·rintro (h1|⟨z,h1,h2⟩)
   ·exact ⟨_,List.mem_append_right _ (Kc.2 rfl),h1.symm,rfl⟩
   ·exact ⟨z,List.mem_append_left _ h1,h2⟩
  ·rintro ⟨z,h1,h2,h3⟩
   rcases D5.1 h1 with h1|h1
   ·exact Wi ⟨z,h1,h2,h3⟩
   ·rw [Kc] at h1;subst h1;exact Ww h2.symm
 ·rw [Kc] at hc
  subst hc
  have:=(h.iff (p,s)).2 ⟨a,ha,he.symm,hf⟩
  rw [hS] at this
  cases this
theorem LI.end {n at':Int} {S:Rm.Open} {ls:List Zq} (h:LI n S ls) (Vc:at'≠n) (d:Int × Int→Bool):LI n (fun x=> !d x && S x) (XB n at' d ls):=by
 refine ⟨fun x=>?_,?_⟩
 ·rw [TU,Bool.not_eq_true',h.iff x]
  constructor
  ·rintro ⟨hd,z,h1,h2,h3⟩
   refine ⟨z,?_,h2,h3⟩
   unfold XB
   rw [wD]
   exact ⟨z,h1,by rw [Z4];rintro ⟨_,hx⟩;rw [h2,hd] at hx;cases hx⟩
  ·rintro ⟨z,h1,h2,h3⟩
   unfold XB at h1
   rw [wD] at h1
   obtain ⟨y,hy,e⟩:=h1
   by_cases hc:y.fin=n∧d (WH y)=true
   ·rw [ZQ hc] at e;subst e;exact absurd h3 Vc
   ·rw [Z4 hc] at e;subst e
    refine ⟨?_,y,hy,h2,h3⟩
    rw [K4]
    intro hx
    rw [←h2] at hx
    exact hc ⟨h3,hx⟩
 ·unfold XB
  rw [List.pairwise_map]
  have hk:∀ z:Zq,WH (if z.fin=n∧d (WH z)=true then {z with fin:=at'} else z)=WH z:=fun z=>by split <;> rfl
  refine h.last.imp fun {a b} N8 hf=>?_
  rw [hk,hk]
  refine N8 ?_
  by_cases hc:a.fin=n∧d (WH a)=true
  ·exact hc.1
  ·rwa [Z4 hc] at hf
theorem GD (p s at':Int) (l1:List Zq) (z:Zq) (hz:WH z=(p,s)) (l2:List Zq) (h:∀ b∈l2,WH b≠(p,s)):∀ k,k≤l2.length→Yg p s at' (l1++z :: l2) (l1.length+1+k)=l1++{z with fin:=at'} :: l2
 | 0,_=>by
  have e1:(l1++z :: l2).getD l1.length Wz=z:=by rw [Rw,Z1d (Zw _),Nat.sub_self];rfl
  unfold Yg
  rw [e1,ZQ (by unfold WH at hz;simpa using hz),List.set_append_right _ _ (Zw _),Nat.sub_self]
  rfl
 | k+1,hk=>by
  have iD:k<l2.length:=hk
  have e1:(l1++z :: l2).getD (l1.length+1+k) Wz=l2[k]:=by
   rw [Rw,Z1d Zo,show l1.length+1+k-l1.length=k+1 by omega,SJ,U7 iD]
   rfl
  have WM:=h l2[k] (Ot iD)
  show Yg p s at' (l1++z :: l2) (l1.length+1+k+1)=_
  unfold Yg
  rw [e1,Z4 (by unfold WH at WM;simpa using WM)]
  exact GD p s at' l1 z hz l2 h k Zo
theorem sL {n at':Int} {S:Rm.Open} {ls:List Zq} (h:LI n S ls) {p s:Int} (hS:S (p,s)=true):Yg p s at' ls ls.length=XB n at' (fun x=>decide (x=(p,s))) ls:=by
 obtain ⟨z,hz,hk,hf⟩:=(h.iff (p,s)).1 hS
 obtain ⟨l1,l2,rfl⟩:=List.append_of_mem hz
 have hp:=List.pairwise_append.1 h.last
 have hp2:=List.pairwise_cons.1 hp.2.1
 have h2:∀ b∈l2,WH b≠(p,s):=fun b hb=>by have:=hp2.1 b hb hf;rwa [hk] at this
 have h1:∀ a∈l1,a.fin=n→WH a≠(p,s):=fun a ha hfa e=>hp.2.2 a ha z (List.mem_cons_self ..) hfa (by rw [hk,e])
 rw [show (l1++z :: l2).length=l1.length+1+l2.length by rw [UM,List.length_cons];omega,GD p s at' l1 z hk l2 h2 _ (Zw _)]
 have e1:XB n at' (fun x=>decide (x=(p,s))) l1=l1:=TB fun a ha hfa=>WB (h1 a ha hfa)
 have e2:XB n at' (fun x=>decide (x=(p,s))) l2=l2:=TB fun b hb _=>WB (h2 b hb)
 unfold XB at e1 e2 ⊢
 rw [N7,List.map_cons,e1,e2,ZQ ⟨hf,We hk⟩]
theorem Eh:∀ (ts:List YD) (S:Rm.Open),(∀ t∈ts,t.kind≠1)→∀ x,ts.foldl W_ S x=true→S x=true
 | [],_,_,_,h=>h
 | t :: ts,S,ht,x,h=>by
  have h1:=Eh ts (W_ S t) (fun u hu=>ht u (List.mem_cons_of_mem _ hu)) x h
  unfold W_ at h1
  rw [Z4 (ht t (List.mem_cons_self ..))] at h1
  by_cases h2:t.kind=2
  ·rw [ZQ h2] at h1;exact (TU _ _ |>.mp h1).2
  ·rwa [Z4 h2] at h1
theorem OQ {n at':Int} (Vc:at'≠n):∀ (ts:List YD) (S:Rm.Open) (ls:List Zq),LI n S ls→Ov S ts→(∀ t∈ts,t.kind≠1) →
  WY n at' ls ts=XB n at' (fun x=>S x && !(ts.foldl W_ S) x) ls∧LI n (ts.foldl W_ S) (WY n at' ls ts)
 | [],S,ls,h,_,_=>⟨(TB fun z _ _=>by show (S (WH z) && !(S (WH z)))=false;cases S (WH z) <;> rfl).symm,h⟩
 | t :: ts,S,ls,h,hc,hb=>by
  have h1:=hb t (List.mem_cons_self ..)
  have hb':∀ u∈ts,u.kind≠1:=fun u hu=>hb u (List.mem_cons_of_mem _ hu)
  by_cases h2:t.kind=2
  ·have hS:S (QR t)=true:=by
    have:=hc.1
    unfold ou at this
    rw [Z4 h1,ZQ h2] at this
    exact (TU _ _ |>.mp this).2
   have e1:Yb n at' ls t=XB n at' (fun x=>decide (x=QR t)) ls:=by
    unfold Yb
    rw [Z4 h1,ZQ h2]
    exact sL h hS
   have e2:W_ S t=fun x=> !decide (x=QR t) && S x:=by unfold W_;rw [Z4 h1,ZQ h2]
   have hl:=h.end Vc (fun x=>decide (x=QR t))
   have ih:=OQ Vc ts (W_ S t) (Yb n at' ls t) (by rw [e1,e2];exact hl) hc.2 hb'
   show WY n at' (Yb n at' ls t) ts=XB n at' (fun x=>S x && !(ts.foldl W_ (W_ S t)) x) ls∧LI n (ts.foldl W_ (W_ S t)) (WY n at' (Yb n at' ls t) ts)
   refine ⟨?_,ih.2⟩
   rw [ih.1,e1,GC Vc]
   refine RI fun z _ _=>?_
   have hf:=Eh ts (W_ S t) hb' (WH z)
   have e3:W_ S t (WH z)=(!decide (WH z=QR t) && S (WH z)):=by rw [e2]
   by_cases hk:WH z=QR t
   ·rw [hk] at hf e3 ⊢
    rw [We rfl] at e3
    have e4:ts.foldl W_ (W_ S t) (QR t)=false:=by
     rw [K4]
     intro hx
     have:=hf hx
     rw [e3] at this
     cases this
    rw [e4,hS,We rfl];rfl
   ·rw [e3,WB hk];rfl
  ·have e1:Yb n at' ls t=ls:=by unfold Yb;rw [Z4 h1,Z4 h2]
   have e2:W_ S t=S:=by unfold W_;rw [Z4 h1,Z4 h2]
   have Bx:=hc.2
   rw [e2] at Bx
   have ih:=OQ Vc ts S ls h Bx hb'
   show WY n at' (Yb n at' ls t) ts=XB n at' (fun x=>S x && !(ts.foldl W_ (W_ S t)) x) ls∧LI n (ts.foldl W_ (W_ S t)) (WY n at' (Yb n at' ls t) ts)
   rw [e1,e2]
   exact ih
theorem Lh (n:Nat):∀ (l:List Nat) (R:Room),∀ t∈(Rm.Xp n l R).1,t.kind≠1
 | [],_,t,h=>by cases h
 | p :: l,R,t,h=>by
  have h:t∈(⟨3,p,n,0,0⟩ :: ⟨2,p,n,0,0⟩ :: (Rm.Xp n l (R.ZP n p Rm.Ve)).1:List YD):=h
  rcases Mg.1 h with rfl|h
  ·show (3:Int)≠1;decide
  rcases Mg.1 h with rfl|h
  ·show (2:Int)≠1;decide
  ·exact Lh n l _ t h
theorem Mn (R:Room) (n:Nat):∀ t∈(Rm.gone R n).1,t.kind≠1:=Lh n _ R
theorem OI (p:Nat) (R:Room):∀ k,∀ t∈(Rm.ZM p R k).1,t.kind≠1
 | 0,t,h=>by cases h
 | k+1,t,h=>by
  unfold Rm.ZM at h
  dsimp only at h
  split at h
  ·rcases D5.1 h with h|h
   ·exact OI p R k t h
   ·rw [Kc] at h;subst h;show (2:Int)≠1;decide
  ·exact OI p R k t h
theorem OJ (R:Room) (p:Nat):∀ k,∀ t∈(Rm.ZI R p k).1,t.kind≠1
 | 0,t,h=>by cases h
 | k+1,t,h=>by
  unfold Rm.ZI at h
  dsimp only at h
  split at h
  ·rcases D5.1 h with h|h
   ·exact OJ R p k t h
   ·exact Mn _ _ t h
  ·exact OJ R p k t h
theorem NS (R:Room) (p n:Nat):∀ t∈Rm.waits R p n,t.kind≠1:=fun t h=>by
 unfold Rm.waits at h
 split at h
 ·cases h
 ·rw [Kc] at h;subst h;show (9:Int)≠1;decide
theorem Hc (R:Room) (n:Nat) (on:Bool):∀ t∈(Rm.mute R n on).1,t.kind≠1:=fun t h=>by
 have h:t∈(Rm.Z5 (R.Y6 n {R.src n with ZG:=on}) n).flatMap (Rm.Y5 (R.Y6 n {R.src n with ZG:=on}) n on):=h
 rw [List.mem_flatMap] at h
 obtain ⟨p,_,h⟩:=h
 unfold Rm.Y5 at h
 split at h
 ·rw [Kc] at h;subst h;show (6:Int)≠1;decide
 ·rcases Mg.1 h with rfl|h
  ·show (7:Int)≠1;decide
  ·exact NS _ _ _ t h
theorem Bj (R:Room) (o:Rm.Op) (sv:Value) (h6:o.kind≠6):∀ t∈(turns R o sv).1,t.kind≠1:=by
 intro t h
 unfold turns at h
 dsimp only at h
 by_cases k2:o.kind=2
 ·rw [ZQ k2] at h;cases h
 rw [Z4 k2] at h
 by_cases k3:o.kind=3
 ·rw [ZQ k3] at h
  rcases D5.1 h with h|h
  ·exact OI _ _ _ t h
  ·exact OJ _ _ _ t h
 rw [Z4 k3] at h
 by_cases k4:o.kind=4
 ·rw [ZQ k4] at h;cases h
 rw [Z4 k4] at h
 by_cases k5:o.kind=5
 ·rw [ZQ k5] at h;exact Mn _ _ t h
 rw [Z4 k5,Z4 h6] at h
 by_cases k7:o.kind=7
 ·rw [ZQ k7,Kc] at h;subst h;show (2:Int)≠1;decide
 rw [Z4 k7] at h
 by_cases k8:o.kind=8
 ·rw [ZQ k8] at h;exact Hc _ _ _ t h
 rw [Z4 k8] at h
 by_cases k9:o.kind=9
 ·rw [ZQ k9] at h;exact Hc _ _ _ t h
 rw [Z4 k9] at h
 by_cases k10:o.kind=10
 ·rw [ZQ k10,Kc] at h;subst h;show (4:Int)≠1;decide
 rw [Z4 k10] at h
 by_cases k11:o.kind=11
 ·rw [ZQ k11] at h
  rcases Mg.1 h with rfl|h
  ·show (5:Int)≠1;decide
  ·exact NS _ _ _ t h
 rw [Z4 k11] at h
 by_cases k12:o.kind=12
 ·rw [ZQ k12] at h
  rcases Mg.1 h with rfl|h
  ·show (8:Int)≠1;decide
  ·exact NS _ _ _ t h
 rw [Z4 k12] at h
 cases h
theorem Ab {R:Room} (hI:Inv R) (p x:Int):Rm.Good (opens R) (YS R p x).1.1 (opens (YS R p x).1.2)∧∀ t∈(YS R p x).1.1,t.kind≠1:=by
 unfold YS
 split
 ·exact ⟨Rm.Good.nil _,fun t h=>by cases h⟩
 ·next h=>
  simp only [Bool.or_eq_true,Bool.not_eq_true',Oh,not_or,Bool.not_eq_false] at h
  obtain ⟨m,hm,ht,-,he⟩:=Rm.QI h.1.1
  have hb:1≤(Rm.of R x).1.toNat∧(Rm.of R x).1.toNat<9:=by
   have h1:=hI.YU m ht
   rw [he]
   show 1≤(m:Int).toNat∧(m:Int).toNat<9
   omega
  exact ⟨Rm.Kl R hb,Mn R _⟩
theorem Lf (p:Int):∀ (l:List Int) (R:Room),Inv R→Wa R→Rm.Good (opens R) (Zg p l R).1.1 (opens (Zg p l R).1.2)∧∀ t∈(Zg p l R).1.1,t.kind≠1
 | [],R,_,_=>⟨Rm.Good.nil _,fun t h=>by cases h⟩
 | x :: l,R,hI,hs=>by
  have h1:=Ab hI p x
  have h0:=Ra p [x] R hI hs
  have h2:=Lf p l (YS R p x).1.2 h0.1 h0.2.1
  exact ⟨Rm.Good.append h1.1 h2.1,fun t h=>by
   rcases D5.1 h with h|h
   ·exact h1.2 t h
   ·exact h2.2 t h⟩
theorem Ay {R:Room} (hI:Inv R) (hs:Wa R) (p:Int) (i:RF):Rm.Good (opens R) (Yj R p i).1.1 (opens (Yj R p i).1.2)∧∀ t∈(Yj R p i).1.1,t.kind≠1:=by
 unfold Yj
 split
 ·exact ⟨Rm.Good.nil _,fun t h=>by cases h⟩
 split
 ·exact ⟨Rm.Good.nil _,fun t h=>by cases h⟩
 split
 ·exact Lf p _ R hI hs
 ·exact ⟨Rm.Good.nil _,fun t h=>by cases h⟩
theorem Ls (p:Int):∀ (l:List RF) (R:Room),Inv R→Wa R→(∀ i∈l,Te i)→Rm.Good (opens R) (ZE p l R).1.1 (opens (ZE p l R).1.2)∧∀ t∈(ZE p l R).1.1,t.kind≠1
 | [],R,_,_,_=>⟨Rm.Good.nil _,fun t h=>by cases h⟩
 | x :: l,R,hI,hs,hi=>by
  have h1:=Ay hI hs p x
  have h0:=Kp hI hs p (hi x (List.mem_cons_self ..))
  have h2:=Ls p l (Yj R p x).1.2 h0.1 h0.2.1 (fun i h=>hi i (List.mem_cons_of_mem _ h))
  exact ⟨Rm.Good.append h1.1 h2.1,fun t h=>by
   rcases D5.1 h with h|h
   ·exact h1.2 t h
   ·exact h2.2 t h⟩
end Go.Proofs.By
namespace Go.Proofs.Rm
open Go.RowKit Go.Proofs.Heap Go.Proofs.Mem
open Go.Proofs.Od (may key)
def findAt {α:Type} (p:α→Bool) (l:List α):Int:=match l.findIdx? p with|some i=>i|none=> -1
theorem OA {α:Type} {p:α→Bool} {l:List α} {k:Nat} (hk:k<l.length) (hp:p l[k]=true) (hn:∀ j (h:j<l.length),j<k→p l[j]=false):findAt p l=k:=by
 unfold findAt
 have:l.findIdx? p=some k:=by
  rw [List.findIdx?_eq_some_iff_getElem]
  exact ⟨hk,hp,fun j hj=>by rw [hn j Zo hj];simp⟩
 rw [this]
theorem Sj {α:Type} {p:α→Bool} {l:List α} (hn:∀ j (h:j<l.length),p l[j]=false):findAt p l = -1:=by
 unfold findAt
 have:l.findIdx? p=none:=by
  rw [List.findIdx?_eq_none_iff]
  intro x hx
  obtain ⟨j,hj,rfl⟩:=List.getElem_of_mem hx
  exact hn j hj
 rw [this]
theorem GG {α β:Type} (f:α→β) (p:β→Bool) (l:List α):findAt p (l.map f)=findAt (fun x=>p (f x)) l:=by
 unfold findAt
 rw [List.findIdx?_map]
 rfl
theorem XL {α:Type} {p:α→Bool} {l:List α} (h:0≤findAt p l):∃ (k:Nat) (hk:k<l.length),findAt p l=k∧p l[k]=true∧∀ j (h:j<l.length),j<k→p l[j]=false:=by
 unfold findAt at h ⊢
 cases hf:l.findIdx? p with
 | none=>rw [hf] at h;exact absurd h Zd
 | some k=>
  obtain ⟨hk,hp,hn⟩:=List.findIdx?_eq_some_iff_getElem.1 hf
  exact ⟨k,hk,rfl,hp,fun j h hj=>by have:=hn j hj;simpa using this⟩
def ZN.XI (T:ZN) (n:Int):Int:=findAt (fun x:Vk=>x.num == n) T.ZA
def ZN.YU (T:ZN) (n:Int):Int:=findAt (fun x:Wl=>x.num == n) T.Yk
def ZN.Zb (T:ZN) (p s:Int):Int:=findAt (fun x:Vj=>x.peer == p && x.source == s) T.Z5
def UO:Wl:=⟨0,0,[],false⟩
def ZN.Wc (T:ZN) (n:Int):Wl:=T.Yk.getD (T.YU n).toNat UO
def ZN.owner (T:ZN) (n:Int):Int:=if T.YU n<0 then 0 else (T.Wc n).own
def ZN.Vy (T:ZN) (n:Int) (k:Nat):List Nat:=((List.range k).map (· + 1)).filter fun p:Nat=>decide (0≤T.Zb p n)
def ZN.Zx (T:ZN) (n:Int):List Nat:=T.Vy n 8
theorem C_ (T:ZN) (n:Int) (k:Nat):T.Vy n (k+1)=T.Vy n k++if 0≤T.Zb ((k:Int)+1) n then [k+1] else []:=by
 unfold ZN.Vy
 rw [ru,N7,List.filter_append]
 congr 1
 have:((k+1:Nat):Int)=(k:Int)+1:=by omega
 by_cases h:0≤T.Zb ((k:Int)+1) n <;> simp [h]
theorem Sl (T:ZN) (n:Int) (k:Nat):(T.Vy n k).length≤k:=by
 unfold ZN.Vy
 have:=List.length_filter_le (fun p:Nat=>decide (0≤T.Zb p n)) ((List.range k).map (· + 1))
 rw [Tx,List.length_range] at this
 exact this
def ZN.RZ (T:ZN) (x:Int):Int:=findAt (fun s:Wl=>s.ss.contains x) T.Yk
def ZN.of (T:ZN) (x:Int):Int × Int × Bool:=if T.RZ x<0 then (0,0,false) else ((T.Yk.getD (T.RZ x).toNat UO).num,index (T.Yk.getD (T.RZ x).toNat UO).ss x,true)
def ZN.VA (T:ZN) (l:List Int) (i:Nat):Bool:=(l.take i).contains (l.getD i 0) || (T.of (l.getD i 0)).2.2
def ZN.TS (T:ZN) (o:Op) (at':Int):Int:=
 if o.ZK.length<1∨3<o.ZK.length then 5
 else if o.ZK.any (fun s=>decide (s<2) || decide (3221225472≤s)) then 5
 else if 0≤at' then 9
 else if (List.range o.ZK.length).any (T.VA o.ZK) then 9 else 0
def qi:Vj:=⟨0,0,0,false⟩
def ZN.OZ (T:ZN) (p s:Int):Vj:=T.Z5.getD (T.Zb p s).toNat qi
def QD (s:Wl) (q:Int):Bool:=decide (0≤q) && decide (q<s.ss.length)
def ZN.Xn (T:ZN) (o:Op) (s:Wl):Int:=
 if o.kind=5∨o.kind=8∨o.kind=9 then
  (if s.own≠o.peer then 10 else if o.kind=8∧s.ZG=true then 9 else if o.kind=9∧s.ZG=false then 11 else 0)
 else if o.kind=6 then
  (if s.own=o.peer then 10 else if 0≤T.Zb o.peer o.source then 9 else if QD s o.ZF then 0 else 5)
 else if T.Zb o.peer o.source<0 then 8
 else if o.kind=10∧(T.OZ o.peer o.source).ZR=true then 9
 else if o.kind=11∧(T.OZ o.peer o.source).ZR=false then 11
 else if o.kind=12∧QD s o.ZF=false then 5
 else if o.kind=12∧(T.OZ o.peer o.source).want=o.ZF then 9
 else 0
def ZN.X5 (T:ZN) (o:Op):Int:=
 if o.kind<2∨12<o.kind then 4
 else if o.peer<1∨8<o.peer then 5
 else if o.kind=2 then
  (if 0≤T.XI o.peer then 9 else if !may o.name then 12 else if T.ZA.any (fun x=>decide (key x.name=key o.name)) then 9 else 0)
 else if T.XI o.peer<0 then 8
 else if o.kind=3 then 0
 else if o.source<1∨8<o.source then 5
 else if o.kind=4 then T.TS o (T.YU o.source)
 else if T.YU o.source<0 then 8
 else T.Xn o (T.Wc o.source)
def ZN.ask (T:ZN) (x:Vj):YD:=⟨9,(T.Wc x.source).own,(T.Wc x.source).num,0,(T.Wc x.source).ss.getD x.want.toNat 0⟩
def ZN.WR (T:ZN) (p s:Int):ZN:={T with Z5:=T.Z5.eraseIdx (T.Zb p s).toNat}
def ZN.Um (T:ZN) (n:Int):ZN:={T with Yk:=T.Yk.eraseIdx (T.YU n).toNat}
def ZN.OW (T:ZN) (n:Int):ZN:={T with ZA:=T.ZA.eraseIdx (T.XI n).toNat}
def ZN.Yg (n:Int):List Nat→ZN→List YD × ZN
 | [],T=>([],T)
 | p :: l,T=>let x:=ZN.Yg n l (T.WR p n);(⟨3,p,n,0,0⟩ :: ⟨2,p,n,0,0⟩ :: x.1,x.2)
def ZN.Yq (T:ZN) (n:Int):List YD × ZN:=((ZN.Yg n (T.Zx n) T).1,(ZN.Yg n (T.Zx n) T).2.Um n)
structure ZL (w:World) (b:Nat) (T:ZN):Prop where
 VC:∃ pv sv uv,w.heap[b]?=some (.cells #[pv,sv,uv] 91)∧I_ w pv sv uv T
theorem ZL.lt {w:World} {b:Nat} {T:ZN} (h:ZL w b T):b<w.heap.size:=by
 obtain ⟨_,_,_,hc,_⟩:=h.VC
 rcases Nat.lt_or_ge b w.heap.size with h|h
 ·exact h
 ·rw [Fm h] at hc;cases hc
theorem ZL.below {w w':World} {b:Nat} {T:ZN} (h:ZL w b T) (hb:Below w w w'):ZL w' b T:=by
 have hl:=h.lt
 obtain ⟨pv,sv,uv,hc,ht⟩:=h.VC
 exact ⟨pv,sv,uv,by rw [hb.block b hl];exact hc,ht.below hb⟩
theorem cell_of {w:World} {b:Nat} {cs:Array Value} {e:TypeId} (h:w.heap[b]?=some (.cells cs e)) (j:Nat):w.cell? ⟨b,j,none⟩=cs[j]?:=by
 simp only [World.cell?,h]
 rfl
end Go.Proofs.Rm
