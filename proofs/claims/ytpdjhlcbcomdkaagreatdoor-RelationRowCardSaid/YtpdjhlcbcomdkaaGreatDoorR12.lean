/- Part of a proof. -/
import Derived.Test.YtpdjhlcbcomdkaaGreatDoorR11
set_option linter.unusedVariables false
set_option linter.unusedSimpArgs false
set_option maxRecDepth 100000
set_option maxHeartbeats 16000000
open Go Go.Q Go.Qr
namespace Go.Proofs.By
open Go.RowKit Go.Proofs.Heap
open Go.Proofs.Rm (YF YB Room ZT Inv Wm YO)
open Go.Proofs.NM (Xz)
open Go.Proofs.Mem
theorem Ya.fr {w w':World} {g b:Nat} {R:Room} {ep:Int} {S:Nat→Prop} (h:Ya w g b R ep) (hf:Fr w S w w') (hd:¬S g) (hb:¬S b) (hS:∀ k c fr,S k→w.heap[k]?≠some (.cells c 66 fr)):Ya w' g b R ep:=
 ⟨(hf.block g (ZW h.Y8) hd).trans h.Y8,h.room.fr hf (Zw _) hb hS⟩
open Go.Proofs.Rm (OpV Xi Ct SK V8 Hg TJ X4 turns)
structure V7 where
 x:OpV
 b:List UInt8
structure KH (w:World) (v:Value) (L:List V7):Prop where
 row:Row w 32 v L.length (L.flatMap fun y=>Xi y.x)
 each:∀ y∈L,Row w 66 (.slice y.x.sa y.x.o.ZK.length y.x.sc) y.x.o.ZK.length (YO y.x.o.ZK)∧Row w 5 (.slice y.x.ba y.x.bl y.x.bc) y.b.length (RD y.b)∧y.x.o.name.length<9223372036854775807
theorem KH.below {w w':World} {v:Value} {L:List V7} (h:KH w v L) (hb:Below w w w'):KH w' v L:=⟨h.row.below hb,fun y hy=>⟨(h.each y hy).1.below hb,(h.each y hy).2.1.below hb,(h.each y hy).2.2⟩⟩
theorem KH.fr {w w':World} {v:Value} {L:List V7} {S:Nat→Prop} (h:KH w v L) (hf:Fr w S w w') (hS:KE w S):KH w' v L:=
 ⟨Row.fr h.row hf (Zw _) (hS.ne Zi),fun y hy=>⟨Row.fr (h.each y hy).1 hf (Zw _) (hS.ne Zi),Row.fr (h.each y hy).2.1 hf (Zw _) (hS.ne Zi),(h.each y hy).2.2⟩⟩
def ay:List UInt8:=[128,96,0,7,0,0,0,50,0,0,0,10,192,90,0,9,5]
def cy:Nat→Rm.Op
 | 0=>⟨2,1,0,0,[97,110,110],[]⟩
 | 1=>⟨2,2,0,0,[98,111,98],[]⟩
 | 2=>⟨4,1,3,0,[],[10,11]⟩
 | 3=>⟨6,2,3,0,[],[]⟩
 | _=>⟨1,1,0,0,[],[]⟩
def Gb (h:Nat):List V7:=[⟨⟨cy 0,none,0,none,0,0⟩,[]⟩,⟨⟨cy 1,none,0,none,0,0⟩,[]⟩,⟨⟨cy 2,some ⟨h,0,none⟩,2,none,0,0⟩,[]⟩,⟨⟨cy 3,none,0,none,0,0⟩,[]⟩,⟨⟨cy 4,none,0,some ⟨h+1,0,none⟩,17,17⟩,ay⟩]
theorem xg (w:World):Calls Tryz.prog 68 (Qv 7 10) w fun e w'=>e = .returned (.slice (some ⟨w,0,none⟩) 17 17)∧w'=w.alloc (.cells (RD ay).toArray 5):=by
 go_enter Tryz.func68,Tryz.ntmps68;go_wp2;go_ret;exact ⟨rfl,rfl⟩
theorem DU (w:World):Calls Tryz.prog 39 #[] w fun e w'=>e = .returned (.slice (some ⟨w.heap.size+2,0,none⟩) 5 5)∧KH w' (.slice (some ⟨w.heap.size+2,0,none⟩) 5 5) (Gb w.heap.size)∧Below w w w':=by
 have C:=Zh xg;go_enter Tryz.func39,Tryz.ntmps39;go_wp2_with (go_at_call 68;refine (C.o _).mono ?_;rintro e w2 ⟨rfl,rfl⟩)
 exact Yx33
end Go.Proofs.By
namespace Go.Proofs.By
open Go.Proofs.Rm (Room YB VE of YS Y_ Wm Zv Inv Mf O5 V8 Nv)
structure S9 (i:Ro):Prop where
 m0:0≤i.X5
 m1:i.X5<4294967296
 g:i.gone.length≤128
 b:i.blocks.length≤128
 p:i.XA.length≤128
theorem WW (b:List UInt8) (p:Int):get b p 4<4294967296:=by
 unfold get;split
 ·exact cr mS
 ·decide
theorem Pf:S9 XT:=⟨by decide,by decide,by decide,by decide,by decide⟩
theorem tH (b:List UInt8):S9 (report b):=⟨by show (0:Int)≤0;decide,by show (0:Int)<4294967296;decide,Tk _,by show ((List.range (at8 b 0 % 32)).map _).length≤128;rw [TB,List.length_range];omega,Tk _⟩
theorem Eo {b:List UInt8} (h:b.length≤512) (p:Nat):(XV b p).length≤128:=by unfold XV;rw [TB,List.length_range];omega
theorem pL {b:List UInt8} (h:b.length≤512) (k:Nat):S9 (parts b k):=by
 unfold parts;by_cases h1:k=203
 ·rw [ZR h1];exact ⟨by show (0:Int)≤0;decide,by show (0:Int)<4294967296;decide,by show ((XV b 4).map _).length≤128;rw [TB];exact Eo h 4,Tk _,Tk _⟩
 ·rw [Z4 h1];have hg:=WW b 8;exact ⟨by show (0:Int)≤(get b 8 4:Int);omega,by show (get b 8 4:Int)<4294967296;omega,Tk _,Tk _,by show ((XV b 12).map _).length≤128;rw [TB];exact Eo h 12⟩
theorem GL {b:List UInt8} (h:b.length≤512):S9 (Y6 b).1.1:=by
 unfold Y6;split
 ·exact Pf
 split
 ·exact Pf
 split
 ·exact Pf
 split
 ·unfold XZ;split
  ·exact Pf
  ·exact tH b
 dsimp only;split
 ·exact Pf
 split
 ·exact Pf
 ·exact pL mS _
theorem GM:∀ (k:Nat) (b:List UInt8),b.length≤512→(∀ i∈(YD k b).1,S9 i)∧(YD k b).1.length≤k
 | 0,b,h=>⟨fun i hi=>(by cases hi),Zw _⟩
 | k+1,b,h=>by
  unfold YD;split
  ·exact ⟨fun i hi=>(by cases hi),Tk _⟩
  split
  ·exact ⟨fun i hi=>by rw [J1] at hi;subst hi;exact GL h,by show 1≤k+1;omega⟩
  have ih:=GM k (b.drop (Y6 b).1.2) (by rw [Rg];omega);dsimp only;split
  ·exact ⟨fun i hi=>(by cases hi),Tk _⟩
  ·refine ⟨fun i hi=>?_,by rw [List.length_cons];exact Nat.succ_le_succ ih.2⟩;rcases KN.1 hi with rfl|hi
   ·exact GL h
   ·exact ih.1 i hi
theorem Si (b:List UInt8):(∀ i∈(Yj b).1,S9 i)∧(Yj b).1.length≤8:=by
 unfold Yj;split
 ·exact ⟨fun i hi=>(by cases hi),Tk _⟩
 ·exact GM 8 b Zo
theorem M7 {b:List UInt8} (h3:192≤at8 b 1∧at8 b 1≤223) (h:(XN b).2=0):(XN b).1 = .XX (Yj b).1:=by
 unfold XN at h ⊢;by_cases h1:512<b.length
 ·rw [ZR h1] at h;cases h
 rw [Z4 h1] at h ⊢;by_cases h2:b.length<2
 ·rw [ZR h2] at h;cases h
 rw [Z4 h2,ZR h3] at h ⊢;by_cases h4:(Yj b).2≠0
 ·rw [ZR h4] at h;exact absurd h h4
 ·rw [Z4 h4]
theorem L6 (R:Room) (p x:Int):(YS R p x).1.1.length≤18:=by
 unfold YS;split
 ·exact Tk _
 ·exact O5 _ _
theorem vT (e:Int):0≤vS e∧vS e≤1:=by unfold vS;split <;> omega
theorem QQ (peer:Int):∀ (l:List Int) (R:Room),Inv R→V8 R→Inv (Ze peer l R).1.2∧V8 (Ze peer l R).1.2∧(Ze peer l R).1.1.length≤18*l.length∧0≤(Ze peer l R).2∧(Ze peer l R).2≤l.length
 | [],R,h,hs=>⟨h,hs,Zw _,Int.le_refl _,Int.le_refl _⟩
 | x :: l,R,h,hs=>by
  have ih:=QQ peer l (YS R peer x).1.2 (Mf h peer x) (Nv hs peer x);have h1:=L6 R peer x;have h2:=vT (YS R peer x).2;unfold Ze;refine ⟨ih.1,ih.2.1,?_,?_,?_⟩
  ·show ((YS R peer x).1.1++_).length≤_;rw [UE,List.length_cons];have:=ih.2.2.1;omega
  ·show 0≤vS _+_;have:=ih.2.2.2.1;omega
  ·show vS _+_≤((l.length+1:Nat):Int);have:=ih.2.2.2.2;omega
theorem Ke {R:Room} (h:Inv R) (hs:V8 R) (peer:Int) {i:Ro} (hi:S9 i):Inv (Yf R peer i).1.2∧V8 (Yf R peer i).1.2∧(Yf R peer i).1.1.length≤3000∧0≤(Yf R peer i).2∧(Yf R peer i).2≤1000:=by
 unfold Yf;split
 ·exact ⟨h,hs,Tk _,by dsimp only;split <;> omega,by dsimp only;split <;> omega⟩
 split
 ·exact ⟨h,hs,Tk _,by dsimp only;split <;> omega,by dsimp only;split <;> omega⟩
 split
 ·have:=QQ peer i.gone R h hs;have hg:=hi.g;exact ⟨this.1,this.2.1,Zo,this.2.2.2.1,Zo⟩
 ·exact ⟨h,hs,Tk _,Int.le_refl _,by show (0:Int)≤1000;decide⟩
theorem QV (peer:Int):∀ (l:List Ro) (R:Room),Inv R→V8 R→(∀ i∈l,S9 i)→Inv (ZC peer l R).1.2∧V8 (ZC peer l R).1.2∧(ZC peer l R).1.1.length≤3000*l.length∧0≤(ZC peer l R).2∧(ZC peer l R).2≤1000*l.length
 | [],R,h,hs,hi=>⟨h,hs,Zw _,Int.le_refl _,Int.le_refl _⟩
 | x :: l,R,h,hs,hi=>by
  have h1:=Ke h hs peer (hi x (List.mem_cons_self ..));have ih:=QV peer l (Yf R peer x).1.2 h1.1 h1.2.1 (fun i h=>hi i (List.mem_cons_of_mem _ h));unfold ZC;refine ⟨ih.1,ih.2.1,?_,?_,?_⟩
  ·show ((Yf R peer x).1.1++_).length≤_;rw [UE,List.length_cons];have:=ih.2.2.1;omega
  ·show 0≤(Yf R peer x).2+_;have:=ih.2.2.2.1;omega
  ·show (Yf R peer x).2+_≤((1000:Int)*((l.length+1:Nat):Int));have:=ih.2.2.2.2;omega
theorem zE {R:Room} (h:Inv R) (hs:V8 R) (ep p:Int) (l:List UInt8):Inv (YG R ep p l).1.2∧V8 (YG R ep p l).1.2∧0≤(YG R ep p l).1.1.unknown∧(YG R ep p l).1.1.unknown≤8000∧ep≤(YG R ep p l).2∧(YG R ep p l).2≤ep+1:=by
 unfold YG;by_cases h1:(XN l).2≠0
 ·rw [ZR h1];exact ⟨h,hs,by show (0:Int)≤0;decide,by show (0:Int)≤8000;decide,Int.le_refl _,by show ep≤ep+1;omega⟩
 rw [Z4 h1];by_cases h2:(!Y_ R p)=true
 ·rw [ZR h2];exact ⟨h,hs,by show (0:Int)≤0;decide,by show (0:Int)≤8000;decide,Int.le_refl _,by show ep≤ep+1;omega⟩
 rw [Z4 h2];by_cases h3:192≤at8 l 1∧at8 l 1≤223
 ·rw [M7 h3 Zo];have hk:=Si l;have:=QV p (Yj l).1 R h hs hk.1;exact ⟨this.1,this.2.1,this.2.2.2.1,by show (ZC p (Yj l).1 R).2≤8000;omega,by show ep≤ep+1;omega,Int.le_refl _⟩
 ·rcases oP:(XN l).1 with _|⟨P,d⟩|fl
  ·exact ⟨h,hs,by show (0:Int)≤0;decide,by show (0:Int)≤8000;decide,by show ep≤ep+1;omega,Int.le_refl _⟩
  ·dsimp only;refine ⟨h,hs,?_,?_,Int.le_refl _,Zo⟩
   ·unfold Vg;split <;> (show (0:Int)≤0;decide)
   ·unfold Vg;split <;> (show (0:Int)≤8000;decide)
  ·exfalso;unfold XN at oP;rw [Z4 h3] at oP;split at oP
   ·cases oP
   split at oP
   ·cases oP
   split at oP
   ·cases oP
   split at oP
   ·cases oP
   ·cases oP
open Go.Proofs.Rm (Ct Hg Lf MZ zH gone SK TJ)
theorem GY (R:Room) (p x:Int):owned R.bare p x=owned R p x:=by
 unfold owned;rw [Lf];rfl
theorem zK (R:Room) (p x:Int):YS R.bare p x=(((YS R p x).1.1,(YS R p x).1.2.bare),(YS R p x).2):=by
 have h1:Y_ R.bare p=Y_ R p:=rfl;have h2:∀ n,(R.bare.src n).own=(R.src n).own:=fun _=>rfl
 unfold YS;rw [Lf,h1,h2,MZ];split <;> rfl
theorem K1 (p:Int):∀ (l:List Int) (R:Room),Ze p l R.bare=(((Ze p l R).1.1,(Ze p l R).1.2.bare),(Ze p l R).2)
 | [],R=>rfl
 | x :: l,R=>by
  unfold Ze;rw [zK];dsimp only;rw [K1 p l]
theorem Af (R:Room) (p:Int) (i:Ro):Yf R.bare p i=(((Yf R p i).1.1,(Yf R p i).1.2.bare),(Yf R p i).2):=by
 have h1:Uy R.bare p i.X5=Uy R p i.X5:=rfl;unfold Yf;rw [GY,h1,K1];split
 ·rfl
 split
 ·rfl
 split <;> rfl
theorem K8 (p:Int):∀ (l:List Ro) (R:Room),ZC p l R.bare=(((ZC p l R).1.1,(ZC p l R).1.2.bare),(ZC p l R).2)
 | [],R=>rfl
 | x :: l,R=>by
  unfold ZC;rw [Af];dsimp only;rw [K8 p l]
theorem Ap (R:Room) (ep p:Int) (P:KI) (d:FJ):Vg R.bare ep p P d=Vg R ep p P d:=by
 unfold Vg;rw [GY,Lf]
theorem E9 (R:Room) (ep p:Int) (l:List UInt8):YG R.bare ep p l=(((YG R ep p l).1.1,(YG R ep p l).1.2.bare),(YG R ep p l).2):=by
 have h1:Y_ R.bare p=Y_ R p:=rfl;unfold YG;rw [h1];split
 ·rfl
 split
 ·rfl
 cases (XN l).1 with
 | none=>rfl
 | X5 P d=>dsimp only;rw [Ap]
 | XX fl=>dsimp only;rw [K8]
theorem tP (R:Room) (ep:Int) (o:Rm.Op) (l:List UInt8) (sv Bj:Value):(take R.bare ep o l Bj).1.1=(take R ep o l sv).1.1∧(take R.bare ep o l Bj).1.2.bare=(take R ep o l sv).1.2.bare∧(take R.bare ep o l Bj).2=(take R ep o l sv).2:=by
 unfold take;by_cases h:o.kind=1
 ·rw [ZR h,ZR h,E9];exact ⟨rfl,rfl,rfl⟩
 ·rw [Z4 h,Z4 h];obtain ⟨h1,h2,h3⟩:=zH R o sv Bj;rw [h2];by_cases h4:(Wm R o sv).2≠0
  ·rw [ZR h4,ZR h4];exact ⟨rfl,rfl,rfl⟩
  ·rw [Z4 h4,Z4 h4];dsimp only;rw [h1];exact ⟨rfl,h3,rfl⟩
theorem vg {R:Room} (h:Inv R) (hs:V8 R) (ep:Int) (o:Rm.Op) (l:List UInt8) (sv:Value):Inv (take R ep o l sv).1.2∧V8 (take R ep o l sv).1.2∧0≤(take R ep o l sv).1.1.unknown∧(take R ep o l sv).1.1.unknown≤8000∧ep≤(take R ep o l sv).2∧(take R ep o l sv).2≤ep+1:=by
 unfold take;split
 ·exact zE h hs ep o.peer l
 split
 ·exact ⟨h,hs,by show (0:Int)≤0;decide,by show (0:Int)≤8000;decide,Int.le_refl _,by show ep≤ep+1;omega⟩
 ·exact ⟨Ct h o sv,Hg hs o sv,by show (0:Int)≤0;decide,by show (0:Int)≤8000;decide,by show ep≤ep+1;omega,Int.le_refl _⟩
theorem xW (R:Room) (ep:Int) (o:Rm.Op) (l:List UInt8) (sv:Value):((take R ep o l sv).1.1.XC.kind=2∧(take R ep o l sv).1.1.XC.N6=ep+1∧(take R ep o l sv).2=ep+1)∨((take R ep o l sv).1.1.XC.kind≠2∧(take R ep o l sv).2=ep∧((take R ep o l sv).1.1.XC.kind=1→(take R ep o l sv).1.1.XC.N6=ep)):=by
 unfold take;split
 ·unfold YG;split
  ·exact Wh ⟨by show (3:Int)≠2;decide,rfl,fun h=>absurd h (by show (3:Int)≠1;decide)⟩
  split
  ·exact Wh ⟨by show (4:Int)≠2;decide,rfl,fun h=>absurd h (by show (4:Int)≠1;decide)⟩
  cases (XN l).1 with
  | none=>exact Ws ⟨rfl,rfl,rfl⟩
  | X5 P d=>
   dsimp only;unfold Vg;split
   ·exact Wh ⟨by show (1:Int)≠2;decide,rfl,fun _=>rfl⟩
   ·exact Wh ⟨by show (5:Int)≠2;decide,rfl,fun h=>absurd h (by show (5:Int)≠1;decide)⟩
  | XX fl=>exact Ws ⟨rfl,rfl,rfl⟩
 split
 ·exact Wh ⟨by show (6:Int)≠2;decide,rfl,fun h=>absurd h (by show (6:Int)≠1;decide)⟩
 ·exact Ws ⟨rfl,rfl,rfl⟩
def WV (L:List V7):Nat→Room × Int
 | 0=>(Rm.empty,0)
 | k+1=>match L[k]? with
  | none=>WV L k
  | some y=>((take (WV L k).1 (WV L k).2 y.x.o y.b (.slice none 0 0)).1.2.bare,(take (WV L k).1 (WV L k).2 y.x.o y.b (.slice none 0 0)).2)
def Z5 (L:List V7) (k:Nat):Taken:=match L[k]? with
 | none=>UB
 | some y=>(take (WV L k).1 (WV L k).2 y.x.o y.b (.slice none 0 0)).1.1
theorem AQ {L:List V7} {k:Nat} {y:V7} {R:Room} {ep:Int} (hy:L[k]?=some y) (hR:R.bare=(WV L k).1) (he:ep=(WV L k).2) (sv:Value) :
  (take R ep y.x.o y.b sv).1.1=Z5 L k∧(take R ep y.x.o y.b sv).1.2.bare=(WV L (k+1)).1∧(take R ep y.x.o y.b sv).2=(WV L (k+1)).2:=by
 obtain ⟨h1,h2,h3⟩:=tP R ep y.x.o y.b sv (.slice none 0 0);rw [hR,he] at h1 h2 h3;have e1:Z5 L k=(take (WV L k).1 (WV L k).2 y.x.o y.b (.slice none 0 0)).1.1:=by unfold Z5;rw [hy]
 have e2:WV L (k+1)=((take (WV L k).1 (WV L k).2 y.x.o y.b (.slice none 0 0)).1.2.bare,(take (WV L k).1 (WV L k).2 y.x.o y.b (.slice none 0 0)).2):=by
  conv=>lhs;unfold WV
  rw [hy]
 rw [e1,e2,he];exact ⟨h1.symm,h2.symm,h3.symm⟩
theorem EK {L:List V7} {k:Nat} (hk:k<L.length):((Z5 L k).XC.kind=2∧(Z5 L k).XC.N6=(WV L k).2+1∧(WV L (k+1)).2=(WV L k).2+1)∨((Z5 L k).XC.kind≠2∧(WV L (k+1)).2=(WV L k).2∧((Z5 L k).XC.kind=1→(Z5 L k).XC.N6=(WV L k).2)):=by
 have hy:L[k]?=some L[k]:=Vb hk;have e1:Z5 L k=(take (WV L k).1 (WV L k).2 L[k].x.o L[k].b (.slice none 0 0)).1.1:=by unfold Z5;rw [hy]
 have e2:(WV L (k+1)).2=(take (WV L k).1 (WV L k).2 L[k].x.o L[k].b (.slice none 0 0)).2:=by
  conv=>lhs;unfold WV
  rw [hy]
 rw [e1,e2];exact xW _ _ _ _ _
theorem Kp (L:List V7):∀ k,0≤(WV L k).2∧(WV L k).2≤k
 | 0=>⟨Int.le_refl _,Int.le_refl _⟩
 | k+1=>by
  have ih:=Kp L k;by_cases hk:k<L.length
  ·rcases EK hk with ⟨_,_,h⟩|⟨_,h,_⟩ <;> (rw [h];omega)
  ·have e2:WV L (k+1)=WV L k:=by
    conv=>lhs;unfold WV
    rw [List.getElem?_eq_none Zo]
   rw [e2];omega
end Go.Proofs.By
namespace Go.Proofs.By
open Go.Proofs.Rm (YB)
structure Zu where
 peer:Int
 source:Int
 MR:Int
 fin:Int
deriving DecidableEq
def Wx:Zu:=⟨0,0,0,0⟩
def Yc (p s at':Int) (ls:List Zu):Nat→List Zu
 | 0=>ls
 | k+1=>if (ls.getD k Wx).peer=p∧(ls.getD k Wx).source=s then ls.set k {ls.getD k Wx with fin:=at'} else Yc p s at' ls k
def X9 (n at':Int) (ls:List Zu) (t:YB):List Zu:=
 if t.kind=1 then ls++[⟨t.peer,t.source,at',n⟩]
 else if t.kind=2 then Yc t.peer t.source at' ls ls.length
 else ls
theorem D4 (p s at':Int) (ls:List Zu):∀ k,(Yc p s at' ls k).length=ls.length
 | 0=>rfl
 | k+1=>by
  unfold Yc;split
  ·rw [List.length_set]
  ·exact D4 p s at' ls k
theorem Cu (n at':Int) (ls:List Zu) (t:YB):(X9 n at' ls t).length≤ls.length+1:=by
 unfold X9;split
 ·rw [UE];exact Zw _
 split
 ·rw [D4];omega
 ·omega
def WX (n at':Int) (ls:List Zu) (ts:List YB):List Zu:=ts.foldl (X9 n at') ls
theorem Cv (n at':Int) (ls:List Zu) (ts:List YB) (t:YB):WX n at' ls (ts++[t])=X9 n at' (WX n at' ls ts) t:=by
 unfold WX;rw [List.foldl_append];rfl
theorem Nt (n at':Int):∀ (ts:List YB) (ls:List Zu),(WX n at' ls ts).length≤ls.length+ts.length
 | [],ls=>Zw _
 | t :: ts,ls=>by
  have h1:=Nt n at' ts (X9 n at' ls t);have h2:=Cu n at' ls t;show (WX n at' (X9 n at' ls t) ts).length≤_;rw [List.length_cons];omega
def Yv (L:List V7) (n:Int):Nat→List Zu
 | 0=>[]
 | k+1=>WX n k (Yv L n k) (Z5 L k).turns
def Xt (L:List V7) (k:Nat):List FI:=(List.range k).map fun j=>(Z5 L j).XC
theorem IY (L:List V7) (k:Nat):Xt L (k+1)=Xt L k++[(Z5 L k).XC]:=by unfold Xt;rw [qE,NR];rfl
theorem Ww (L:List V7) (k:Nat):(Xt L k).length=k:=by unfold Xt;rw [TB,List.length_range]
end Go.Proofs.By
namespace Go.Proofs.Rm
abbrev Open:=Int × Int→Bool
def QG (t:YB):Int × Int:=(t.peer,t.source)
def nG (S:Open) (t:YB):Bool:=(decide (t.kind=9) || (VE t.peer 9 && VE t.source 9)) && if t.kind=1 then !S (QG t) else if t.kind=2 then S (QG t) else if t.kind=9 then true else S (QG t)
theorem Gc {S:Open} {t:YB} {p n:Nat} (hp:t.peer=p) (hn:t.source=n) (h1:1≤p) (h2:p<9) (h3:1≤n) (h4:n<9) (h:(if t.kind=1 then !S (QG t) else if t.kind=2 then S (QG t) else if t.kind=9 then true else S (QG t))=true):nG S t=true:=by
 unfold nG;rw [h,hp,hn,(XS _ _).2 ⟨Zo,Zo⟩,(XS _ _).2 ⟨Zo,Zo⟩];simp
def W9 (S:Open) (t:YB):Open:=if t.kind=1 then fun x=>decide (x=QG t) || S x else if t.kind=2 then fun x=> !decide (x=QG t) && S x else S
def Ob (S:Open):List YB→Prop
 | []=>True
 | t :: l=>nG S t=true∧Ob (W9 S t) l
def Good (S:Open) (l:List YB) (S':Open):Prop:=Ob S l∧l.foldl W9 S=S'
theorem Good.nil (S:Open):Good S [] S:=⟨trivial,rfl⟩
theorem Good.cons {S S1 S':Open} {t:YB} {l:List YB} (h:nG S t=true) (h1:W9 S t=S1) (hl:Good S1 l S'):Good S (t :: l) S':=by
 subst h1;exact ⟨⟨h,hl.1⟩,hl.2⟩
theorem Mu:∀ (a:List YB) (S:Open) (b:List YB),Ob S a→Ob (a.foldl W9 S) b→Ob S (a++b)
 | [],_,_,_,h=>h
 | t :: a,S,b,h1,h2=>⟨h1.1,Mu a (W9 S t) b h1.2 h2⟩
theorem Good.append {S S1 S':Open} {a b:List YB} (h1:Good S a S1) (h2:Good S1 b S'):Good S (a++b) S':=by
 obtain ⟨h1,rfl⟩:=h1;exact ⟨Mu a S b h1 h2.1,by rw [List.foldl_append];exact h2.2⟩
theorem DR:∀ (l:List YB) (S:Open),Ob S l→∀ (i:Nat) (h:i<l.length),nG ((l.take i).foldl W9 S) l[i]=true
 | t :: l,S,h,0,_=>h.1
 | t :: l,S,h,i+1,hi=>DR l (W9 S t) h.2 i (by simpa using hi)
theorem Good.step {S S':Open} {l:List YB} (h:Good S l S') (i:Nat) (hi:i<l.length):nG ((l.take i).foldl W9 S) l[i]=true∧(l.take (i+1)).foldl W9 S=W9 ((l.take i).foldl W9 S) l[i]:=
 ⟨DR l S h.1 i hi,by rw [List.take_succ_eq_append_getElem hi,List.foldl_append];rfl⟩
theorem SG {S:Open}:∀ (l:List YB),(∀ t∈l,t.kind≠1∧t.kind≠2∧(t.kind=9∨(S (QG t)=true∧VE t.peer 9=true∧VE t.source 9=true)))→Good S l S
 | [],_=>Good.nil S
 | t :: l,h=>by
  obtain ⟨h1,h2,h3⟩:=h t Zi;refine Good.cons ?_ (by unfold W9;rw [Z4 h1,Z4 h2]) (SG l fun x hx=>h x (by simp [hx]));unfold nG;rw [Z4 h1,Z4 h2];rcases h3 with h9|⟨a,b,c⟩
  ·rw [ZR h9,Wi h9];rfl
  ·rw [a,b,c];split <;> simp
def opens (R:Room):Open:=fun x=>Zv R x.1 x.2
theorem Pg {R:Room} {x:Int × Int}:opens R x=true↔∃ p n:Nat,x=((p:Int),(n:Int))∧1≤p∧p<9∧1≤n∧n<9∧(R.sub n p).there=true:=by
 obtain ⟨a,b⟩:=x;unfold opens Zv;simp only [UR,XS];constructor
 ·rintro ⟨⟨h1,h2⟩,h3⟩;exact ⟨a.toNat,b.toNat,by rw [Int.toNat_of_nonneg Zo,Int.toNat_of_nonneg Zo],Zo,Zo,Zo,Zo,h3⟩
 ·rintro ⟨p,n,e,h1,h2,h3,h4,h5⟩;simp only [Prod.mk.injEq] at e;obtain ⟨rfl,rfl⟩:=e;rw [Wz,Wz];exact ⟨⟨⟨Zo,Zo⟩,Zo,Zo⟩,h5⟩
theorem Sl {R:Room} {p n:Nat} (h1:1≤p) (h2:p<9) (h3:1≤n) (h4:n<9):opens R ((p:Int),(n:Int))=(R.sub n p).there:=by
 show Zv R p n=_;unfold Zv;rw [(XS _ _).2 ⟨Zo,Zo⟩,(XS _ _).2 ⟨Zo,Zo⟩,Wz,Wz];simp
theorem EB {R':Room} {f:Int × Int→Bool} (h:∀ p n:Nat,1≤p→p<9→1≤n→n<9→(R'.sub n p).there=f ((p:Int),(n:Int))) (h0:∀ x,f x=true→∃ p n:Nat,x=((p:Int),(n:Int))∧1≤p∧p<9∧1≤n∧n<9):opens R'=f:=by
 funext x;rw [Bool.eq_iff_iff];constructor
 ·intro hx;obtain ⟨p,n,rfl,h1,h2,h3,h4,h5⟩:=Pg.1 hx;rw [←h p n h1 h2 h3 h4];exact h5
 ·intro hx;obtain ⟨p,n,rfl,h1,h2,h3,h4⟩:=h0 x hx;rw [Pg];exact ⟨p,n,rfl,h1,h2,h3,h4,by rw [h p n h1 h2 h3 h4];exact hx⟩
theorem Av {R:Room} {x:Int × Int} (h:opens R x=true):∃ p n:Nat,x=((p:Int),(n:Int))∧1≤p∧p<9∧1≤n∧n<9:=by
 obtain ⟨p,n,e,h1,h2,h3,h4,_⟩:=Pg.1 h;exact ⟨p,n,e,h1,h2,h3,h4⟩
theorem u7 (p q n m:Nat):decide (((p:Int),(n:Int))=((q:Int),(m:Int)))=(decide (n=m) && decide (p=q)):=by
 rw [Bool.eq_iff_iff];simp;omega
theorem Ki (R:Room) (n p:Nat):opens (R.ZP n p U7)=fun x=> !decide (x=((p:Int),(n:Int))) && opens R x:=by
 refine EB (fun q m h1 h2 h3 h4=>?_) (fun x hx=>Av (Bool.and_eq_true_iff.1 hx).2);show _=(!decide (((q:Int),(m:Int))=((p:Int),(n:Int))) && opens R ((q:Int),(m:Int)));rw [u7,Sl h1 h2 h3 h4,VI];by_cases e:m=n∧q=p
 ·rw [ZR e,Wi e.1,Wi e.2];rfl
 ·exact fX
theorem Aw (R:Room) {n p:Nat} (x:Sub) (hx:x.there=true) (h1:1≤p) (h2:p<9) (h3:1≤n) (h4:n<9):opens (R.ZP n p x)=fun y=>decide (y=((p:Int),(n:Int))) || opens R y:=by
 refine EB (fun q m a1 a2 a3 a4=>?_) (fun y hy=>?_)
 ·show _=(decide (((q:Int),(m:Int))=((p:Int),(n:Int))) || opens R ((q:Int),(m:Int)));rw [u7,Sl a1 a2 a3 a4,VI];by_cases e:m=n∧q=p
  ·rw [ZR e,Wi e.1,Wi e.2,hx];rfl
  ·exact fX
 ·rcases Bool.or_eq_true_iff.1 hy with h|h
  ·exact ⟨p,n,of_decide_eq_true h,h1,h2,h3,h4⟩
  ·exact Av (R:=R) h
theorem w_ {R R':Room} (h:∀ n p,(R'.sub n p).there=(R.sub n p).there):opens R'=opens R:=by
 funext x;unfold opens Zv;rw [h]
theorem Mi (R:Room) (n p:Nat) (x:Sub) (hx:x.there=(R.sub n p).there):opens (R.ZP n p x)=opens R:=by
 refine w_ fun m q=>?_
 rw [VI];split
 ·rename_i e;rw [e.1,e.2];exact hx
 ·rfl
theorem I8 (n:Nat) (hn:1≤n∧n<9):∀ (l:List Nat) (R:Room),l.Nodup→(∀ p∈l,1≤p∧p<9∧(R.sub n p).there=true)→Good (opens R) (Xm n l R).1 (opens (Xm n l R).2)
 | [],R,_,_=>Good.nil _
 | p :: l,R,hd,hl=>by
  obtain ⟨h1,h2,h3⟩:=hl p Zi;have ho:opens R ((p:Int),(n:Int))=true:=by rw [Sl h1 h2 hn.1 hn.2];exact h3
  obtain ⟨hd1,qI⟩:=List.nodup_cons.1 hd;refine Good.cons (S1:=opens R) (Gc (p:=p) (n:=n) rfl rfl h1 h2 hn.1 hn.2 ho) rfl (Good.cons (S1:=opens (R.ZP n p U7)) (Gc (p:=p) (n:=n) rfl rfl h1 h2 hn.1 hn.2 ho) (by rw [Ki];rfl) (I8 n hn l _ qI fun q hq=>?_));obtain ⟨a1,a2,a3⟩:=hl q (by simp [hq]);refine ⟨a1,a2,?_⟩;rw [VI,Z4 (fun e:n=n∧q=p=>hd1 (e.2▸hq))];exact a3
theorem xU (R:Room) (n:Int):(Z0 R n).Nodup:=List.Pairwise.filter _ List.nodup_range
theorem J9 (R:Room) {n:Nat} (hn:1≤n∧n<9):Good (opens R) (gone R n).1 (opens (gone R n).2):=by
 have h:=I8 n hn (Z0 R n) R (xU R n) (fun p hp=>by
  obtain ⟨h1,h2,_,_,h5⟩:=Pe.1 hp
  exact ⟨h1,h2,h5⟩)
 exact h
theorem JL (R:Room) (hI:Inv R) (p:Nat) (hp:1≤p∧p<9):∀ k,Good (opens R) (ZM p R k).1 (opens (ZM p R k).2)
 | 0=>Good.nil _
 | k+1=>by
  have ih:=JL R hI p hp k;unfold ZM;dsimp only;split
  ·rename_i ht
   have hk:=(QU hI p k).Y9 k p ht;refine ih.append (Good.cons ?_ ?_ (Good.nil _))
   ·refine Gc (p:=p) (n:=k) rfl rfl hp.1 hp.2 hk.1 hk.2.1 ?_;show opens (ZM p R k).2 ((p:Int),(k:Int))=true;rw [Sl hp.1 hp.2 hk.1 hk.2.1];exact ht
   ·rw [Ki];rfl
  ·exact ih
theorem JN (R:Room) (hI:Inv R) (p:Nat):∀ k,Good (opens R) (ZI R p k).1 (opens (ZI R p k).2)
 | 0=>Good.nil _
 | k+1=>by
  have ih:=JN R hI p k;unfold ZI;dsimp only;split
  ·rename_i ht
   have hk:=hI.YU k (Bool.and_eq_true_iff.1 ht).1;exact ih.append (J9 _ ⟨hk.1,hk.2.1⟩)
  ·exact ih
theorem wT (R:Room) (hI:Inv R) (p:Nat) (hp:1≤p∧p<9):Good (opens R) (leave R p).1 (opens (leave R p).2):=
 (JL R hI p hp 9).append (JN _ (QU hI p 9) p 9)
theorem A_ {R:Room} {S:Open} {n p:Nat}:∀ t∈waits R p n,t.kind≠1∧t.kind≠2∧(t.kind=9∨(S (QG t)=true∧VE t.peer 9=true∧VE t.source 9=true)):=by
 intro t ht;unfold waits at ht;split at ht
 ·cases ht
 ·rw [J1] at ht;subst ht;exact ⟨by simp [asks],by simp [asks],Ws rfl⟩
theorem Ew (R:Room) {n:Nat} (on:Bool):Good (opens R) (mute R n on).1 (opens (mute R n on).2):=by
 have e:opens (mute R n on).2=opens R:=rfl;rw [e];refine SG _ fun t ht=>?_
 obtain ⟨p,hp,ht⟩:=List.mem_flatMap.1 ht;obtain ⟨h1,h2,h3,h4,h5⟩:=Pe.1 hp
 have ho:opens R ((p:Int),(n:Int))=true:=by
  rw [←e,Pg];exact ⟨p,n,rfl,h1,h2,h3,h4,h5⟩
 have ho:opens R ((p:Int),(n:Int))=true∧VE (p:Int) 9=true∧VE (n:Int) 9=true:=⟨ho,(XS _ _).2 ⟨Zo,Zo⟩,(XS _ _).2 ⟨Zo,Zo⟩⟩;unfold Y0 at ht;split at ht
 ·rw [J1] at ht;subst ht;exact ⟨by simp,by simp,Wh ho⟩
 ·exact bE
theorem x7 {R:Room} {o:Op} (hI:Inv R) (ok:Ok R o) (sv:Value):Good (opens R) (turns R o sv).1 (opens (turns R o sv).2):=by
 obtain ⟨p,hp⟩:=Rf (show 0≤o.peer by have:=ok.peer;omega);have Ei:1≤p∧p<9:=by have:=ok.peer;omega
 have ep:o.peer.toNat=p:=by rw [hp];rfl
 unfold turns;dsimp only;by_cases k2:o.kind=2
 ·rw [ZR k2];exact Good.nil _
 rw [Z4 k2];by_cases k3:o.kind=3
 ·rw [ZR k3,ep];exact wT R hI p Ei
 rw [Z4 k3];have k4':4≤o.kind:=by have:=ok.kind;omega
 obtain ⟨n,hn⟩:=Rf (show 0≤o.source by have:=ok.src k4';omega);have FN:1≤n∧n<9:=by have:=ok.src k4';omega
 have en:o.source.toNat=n:=by rw [hn];rfl
 have kf:VE o.peer 9=true:=(XS _ _).2 ⟨Zo,Zo⟩;have GA:VE o.source 9=true:=(XS _ _).2 ⟨Zo,Zo⟩;rw [ep,en];by_cases k4:o.kind=4
 ·rw [ZR k4];exact Good.nil _
 rw [Z4 k4];have k5':5≤o.kind:=by omega
 by_cases k5:o.kind=5
 ·rw [ZR k5];exact J9 R FN
 rw [Z4 k5];by_cases k6:o.kind=6
 ·rw [ZR k6];have hs:=(OT (ok.abt k5') k6).2.1;rw [ep,en] at hs;have e1:=Aw R (n:=n) (p:=p) ⟨true,false,o.ZH⟩ rfl Ei.1 Ei.2 FN.1 FN.2;unfold begin;dsimp only;rw [ep,en];refine Good.cons (S1:=opens (R.ZP n p ⟨true,false,o.ZH⟩)) ?_ ?_ (SG _ fun t ht=>?_)
  ·refine Gc (p:=p) (n:=n) hp hn Ei.1 Ei.2 FN.1 FN.2 ?_;show (!opens R (o.peer,o.source))=true;rw [hp,hn,Sl Ei.1 Ei.2 FN.1 FN.2,hs];rfl
  ·rw [e1];unfold W9 QG;rw [ZR rfl];dsimp only;rw [hp,hn]
  ·split at ht
   ·rw [J1] at ht;subst ht;refine ⟨by simp,by simp,Wh ⟨?_,kf,GA⟩⟩;show opens _ (o.peer,o.source)=true;rw [hp,hn,Sl Ei.1 Ei.2 FN.1 FN.2,VI,ZR ⟨rfl,rfl⟩]
   ·rw [J1] at ht;subst ht;exact ⟨by simp [asks],by simp [asks],Ws rfl⟩
 rw [Z4 k6];by_cases k7:o.kind=7
 ·rw [ZR k7];have hs:=(TD (ok.abt k5') (Ws k7)).1;rw [ep,en] at hs;refine Good.cons ?_ ?_ (Good.nil _)
  ·refine Gc (p:=p) (n:=n) hp hn Ei.1 Ei.2 FN.1 FN.2 ?_;show opens R (o.peer,o.source)=true;rw [hp,hn,Sl Ei.1 Ei.2 FN.1 FN.2];exact hs
  ·rw [Ki];unfold W9 QG;rw [Z4 (show ¬(2:Int)=1 by decide),ZR rfl];dsimp only;rw [hp,hn]
 rw [Z4 k7];by_cases k8:o.kind=8
 ·rw [ZR k8];exact Ew R true
 rw [Z4 k8];by_cases k9:o.kind=9
 ·rw [ZR k9];exact Ew R false
 rw [Z4 k9];have hs:=(TD (ok.abt k5') (Wh Zo)).1;rw [ep,en] at hs;have ho:opens R (o.peer,o.source)=true∧VE o.peer 9=true∧VE o.source 9=true:=⟨by rw [hp,hn,Sl Ei.1 Ei.2 FN.1 FN.2];exact hs,kf,GA⟩;by_cases k10:o.kind=10
 ·rw [ZR k10];dsimp only;rw [Mi R n p ⟨(R.sub n p).there,true,(R.sub n p).want⟩ rfl];refine SG _ fun t ht=>?_
  rw [J1] at ht;subst ht;exact ⟨by simp,by simp,Wh ho⟩
 rw [Z4 k10];by_cases k11:o.kind=11
 ·rw [ZR k11];dsimp only;rw [Mi R n p ⟨(R.sub n p).there,false,(R.sub n p).want⟩ rfl];refine SG _ fun t ht=>?_
  exact bE
 rw [Z4 k11];by_cases k12:o.kind=12
 ·rw [ZR k12];dsimp only;rw [Mi R n p ⟨(R.sub n p).there,(R.sub n p).ZQ,o.ZH⟩ rfl];refine SG _ fun t ht=>?_
  exact bE
 rw [Z4 k12];exact Good.nil _
theorem nJ {R:Room} (hI:Inv R) (o:Op) (sv:Value):Good (opens R) (Wm R o sv).1.1 (opens (Wm R o sv).1.2):=by
 unfold Wm;by_cases h0:X4 R o=0
 ·rw [Z4 (by simpa using h0)];exact x7 hI (Pw h0) sv
 ·rw [ZR h0];exact Good.nil _
theorem JQ:opens empty=fun _=>false:=by
 funext x;rw [KM];intro h;obtain ⟨p,n,_,_,_,_,_,h5⟩:=Pg.1 h;cases h5
/-! ### all leave -/
end Go.Proofs.Rm
namespace Go.Proofs.By
open Go.Proofs.Rm (Room YB Inv V8 opens W9 Ob nG QG Zv YS Wm turns)
def WB (z:Zu):Int × Int:=(z.peer,z.source)
def Xx (n at':Int) (dead:Int × Int→Bool) (ls:List Zu):List Zu:=ls.map fun z=>if z.fin=n∧dead (WB z)=true then {z with fin:=at'} else z
theorem Tp {n at':Int} {dead:Int × Int→Bool} {ls:List Zu} (h:∀ z∈ls,z.fin=n→dead (WB z)=false):Xx n at' dead ls=ls:=by
 unfold Xx
 conv=>rhs;rw [←List.map_id ls]
 refine List.map_congr_left fun z hz=>?_
 by_cases hf:z.fin=n
 ·rw [Z4 (by rw [h z hz hf];simp)];rfl
 ·rw [Z4 (fun x=>hf x.1)];rfl
theorem Gi {n at':Int} (VQ:at'≠n) (d1 d2:Int × Int→Bool) (ls:List Zu):Xx n at' d2 (Xx n at' d1 ls)=Xx n at' (fun x=>d1 x || d2 x) ls:=by
 unfold Xx;rw [List.map_map];refine List.map_congr_left fun z _=>?_
 have hor:∀ b c:Bool,(b || c)=true↔b=true∨c=true:=fun b c=>by rw [Bool.or_eq_true]
 by_cases h1:z.fin=n∧d1 (WB z)=true
 ·have e1:(if z.fin=n∧d1 (WB z)=true then {z with fin:=at'} else z)={z with fin:=at'}:=ZR h1;have e2:(if z.fin=n∧(d1 (WB z) || d2 (WB z))=true then {z with fin:=at'} else z)={z with fin:=at'}:=ZR ⟨h1.1,(hor _ _).2 (Ws h1.2)⟩;show (fun z:Zu=>if z.fin=n∧d2 (WB z)=true then {z with fin:=at'} else z) (if z.fin=n∧d1 (WB z)=true then {z with fin:=at'} else z)=(if z.fin=n∧(d1 (WB z) || d2 (WB z))=true then {z with fin:=at'} else z);rw [e1,e2];exact Z4 (fun h=>VQ h.1)
 ·have e1:(if z.fin=n∧d1 (WB z)=true then {z with fin:=at'} else z)=z:=Z4 h1;show (fun z:Zu=>if z.fin=n∧d2 (WB z)=true then {z with fin:=at'} else z) (if z.fin=n∧d1 (WB z)=true then {z with fin:=at'} else z)=(if z.fin=n∧(d1 (WB z) || d2 (WB z))=true then {z with fin:=at'} else z);rw [e1];by_cases h2:z.fin=n∧d2 (WB z)=true
  ·exact (ZR h2).trans (ZR ⟨h2.1,(hor _ _).2 (Wh h2.2)⟩).symm
  ·refine (Z4 h2).trans (Z4 ?_).symm;rintro ⟨a,b⟩;rcases (hor _ _).1 b with c|c
   ·exact h1 ⟨a,c⟩
   ·exact h2 ⟨a,c⟩
theorem Rq {n at':Int} {d1 d2:Int × Int→Bool} {ls:List Zu} (h:∀ z∈ls,z.fin=n→d1 (WB z)=d2 (WB z)):Xx n at' d1 ls=Xx n at' d2 ls:=by
 unfold Xx;refine List.map_congr_left fun z hz=>?_
 by_cases hf:z.fin=n
 ·rw [h z hz hf]
 ·rw [Z4 (fun x=>hf x.1),Z4 (fun x=>hf x.1)]
structure LI (n:Int) (S:Rm.Open) (ls:List Zu):Prop where
 iff:∀ x,S x=true↔∃ z∈ls,WB z=x∧z.fin=n
 last:ls.Pairwise fun a b=>a.fin=n→WB b≠WB a
theorem LI.nil (n:Int):LI n (fun _=>false) []:=⟨fun x=>⟨fun h=>absurd h Zd,fun ⟨z,h,_⟩=>by cases h⟩,List.Pairwise.nil⟩
theorem LI.begin {n:Int} {S:Rm.Open} {ls:List Zu} (h:LI n S ls) (p s b:Int) (hS:S (p,s)=false):LI n (fun x=>decide (x=(p,s)) || S x) (ls++[⟨p,s,b,n⟩]):=by
 refine ⟨fun x=>?_,List.pairwise_append.2 ⟨h.last,List.pairwise_singleton _ _,fun a ha c hc hf he=>?_⟩⟩
 ·rw [Bool.or_eq_true,Pz,h.iff x];constructor
  ·rintro (h1|⟨z,h1,h2⟩)
   ·exact ⟨_,List.mem_append_right _ (J1.2 rfl),h1.symm,rfl⟩
   ·exact ⟨z,List.mem_append_left _ h1,h2⟩
  ·rintro ⟨z,h1,h2,h3⟩;rcases DN.1 h1 with h1|h1
   ·exact Wh ⟨z,h1,h2,h3⟩
   ·rw [J1] at h1;subst h1;exact Ws h2.symm
 ·rw [J1] at hc;subst hc;have:=(h.iff (p,s)).2 ⟨a,ha,he.symm,hf⟩;rw [hS] at this;cases this
theorem LI.end {n at':Int} {S:Rm.Open} {ls:List Zu} (h:LI n S ls) (VQ:at'≠n) (d:Int × Int→Bool):LI n (fun x=> !d x && S x) (Xx n at' d ls):=by
 refine ⟨fun x=>?_,?_⟩
 ·rw [UR,Bool.not_eq_true',h.iff x];constructor
  ·rintro ⟨hd,z,h1,h2,h3⟩;refine ⟨z,?_,h2,h3⟩;unfold Xx;rw [vO];exact ⟨z,h1,by rw [Z4];rintro ⟨_,hx⟩;rw [h2,hd] at hx;cases hx⟩
  ·rintro ⟨z,h1,h2,h3⟩;unfold Xx at h1;rw [vO] at h1;obtain ⟨y,hy,e⟩:=h1;by_cases hc:y.fin=n∧d (WB y)=true
   ·rw [ZR hc] at e;subst e;exact absurd h3 VQ
   ·rw [Z4 hc] at e;subst e;refine ⟨?_,y,hy,h2,h3⟩;rw [KM];intro hx;rw [←h2] at hx;exact hc ⟨h3,hx⟩
 ·unfold Xx;rw [List.pairwise_map];have hk:∀ z:Zu,WB (if z.fin=n∧d (WB z)=true then {z with fin:=at'} else z)=WB z:=fun z=>by split <;> rfl
  refine h.last.imp fun {a b} NS hf=>?_
  rw [hk,hk];refine NS ?_;by_cases hc:a.fin=n∧d (WB a)=true
  ·exact hc.1
  ·rwa [Z4 hc] at hf
theorem Gj (p s at':Int) (l1:List Zu) (z:Zu) (hz:WB z=(p,s)) (l2:List Zu) (h:∀ b∈l2,WB b≠(p,s)):∀ k,k≤l2.length→Yc p s at' (l1++z :: l2) (l1.length+1+k)=l1++{z with fin:=at'} :: l2
 | 0,_=>by
  have e1:(l1++z :: l2).getD l1.length Wx=z:=by rw [SC,Z1c (Zw _),Nat.sub_self];rfl
  unfold Yc;rw [e1,ZR (by unfold WB at hz;simpa using hz),List.set_append_right _ _ (Zw _),Nat.sub_self];rfl
 | k+1,hk=>by
  have gM:k<l2.length:=hk
  have e1:(l1++z :: l2).getD (l1.length+1+k) Wx=l2[k]:=by
   rw [SC,Z1c Zo,show l1.length+1+k-l1.length=k+1 by omega,R8,Vb gM];rfl
  have WK:=h l2[k] (PA gM);show Yc p s at' (l1++z :: l2) (l1.length+1+k+1)=_;unfold Yc;rw [e1,Z4 (by unfold WB at WK;simpa using WK)];exact Gj p s at' l1 z hz l2 h k Zo
theorem r7 {n at':Int} {S:Rm.Open} {ls:List Zu} (h:LI n S ls) {p s:Int} (hS:S (p,s)=true):Yc p s at' ls ls.length=Xx n at' (fun x=>decide (x=(p,s))) ls:=by
 obtain ⟨z,hz,hk,hf⟩:=(h.iff (p,s)).1 hS;obtain ⟨l1,l2,rfl⟩:=List.append_of_mem hz;have hp:=List.pairwise_append.1 h.last;have hp2:=List.pairwise_cons.1 hp.2.1;have h2:∀ b∈l2,WB b≠(p,s):=fun b hb=>by have:=hp2.1 b hb hf;rwa [hk] at this
 have h1:∀ a∈l1,a.fin=n→WB a≠(p,s):=fun a ha hfa e=>hp.2.2 a ha z (List.mem_cons_self ..) hfa (by rw [hk,e])
 rw [show (l1++z :: l2).length=l1.length+1+l2.length by rw [UE,List.length_cons];omega,Gj p s at' l1 z hk l2 h2 _ (Zw _)];have e1:Xx n at' (fun x=>decide (x=(p,s))) l1=l1:=Tp fun a ha hfa=>WI (h1 a ha hfa)
 have e2:Xx n at' (fun x=>decide (x=(p,s))) l2=l2:=Tp fun b hb _=>WI (h2 b hb)
 unfold Xx at e1 e2 ⊢;rw [NR,List.map_cons,e1,e2,ZR ⟨hf,Wi hk⟩]
theorem D6:∀ (ts:List YB) (S:Rm.Open),(∀ t∈ts,t.kind≠1)→∀ x,ts.foldl W9 S x=true→S x=true
 | [],_,_,_,h=>h
 | t :: ts,S,ht,x,h=>by
  have h1:=D6 ts (W9 S t) (fun u hu=>ht u (List.mem_cons_of_mem _ hu)) x h;unfold W9 at h1;rw [Z4 (ht t (List.mem_cons_self ..))] at h1;by_cases h2:t.kind=2
  ·rw [ZR h2] at h1;exact (UR _ _ |>.mp h1).2
  ·rwa [Z4 h2] at h1
theorem Ox {n at':Int} (VQ:at'≠n):∀ (ts:List YB) (S:Rm.Open) (ls:List Zu),LI n S ls→Ob S ts→(∀ t∈ts,t.kind≠1) →
  WX n at' ls ts=Xx n at' (fun x=>S x && !(ts.foldl W9 S) x) ls∧LI n (ts.foldl W9 S) (WX n at' ls ts)
 | [],S,ls,h,_,_=>⟨(Tp fun z _ _=>by show (S (WB z) && !(S (WB z)))=false;cases S (WB z) <;> rfl).symm,h⟩
 | t :: ts,S,ls,h,hc,hb=>by
  have h1:=hb t (List.mem_cons_self ..);have hb':∀ u∈ts,u.kind≠1:=fun u hu=>hb u (List.mem_cons_of_mem _ hu)
  by_cases h2:t.kind=2
  ·have hS:S (QG t)=true:=by
    have:=hc.1;unfold nG at this;rw [Z4 h1,ZR h2] at this;exact (UR _ _ |>.mp this).2
   have e1:X9 n at' ls t=Xx n at' (fun x=>decide (x=QG t)) ls:=by
    unfold X9;rw [Z4 h1,ZR h2];exact r7 h hS
   have e2:W9 S t=fun x=> !decide (x=QG t) && S x:=by unfold W9;rw [Z4 h1,ZR h2]
   have hl:=h.end VQ (fun x=>decide (x=QG t));have ih:=Ox VQ ts (W9 S t) (X9 n at' ls t) (by rw [e1,e2];exact hl) hc.2 hb';show WX n at' (X9 n at' ls t) ts=Xx n at' (fun x=>S x && !(ts.foldl W9 (W9 S t)) x) ls∧LI n (ts.foldl W9 (W9 S t)) (WX n at' (X9 n at' ls t) ts);refine ⟨?_,ih.2⟩;rw [ih.1,e1,Gi VQ];refine Rq fun z _ _=>?_
   have hf:=D6 ts (W9 S t) hb' (WB z);have e3:W9 S t (WB z)=(!decide (WB z=QG t) && S (WB z)):=by rw [e2]
   by_cases hk:WB z=QG t
   ·rw [hk] at hf e3 ⊢;rw [Wi rfl] at e3
    have e4:ts.foldl W9 (W9 S t) (QG t)=false:=by
     rw [KM];intro hx;have:=hf hx;rw [e3] at this;cases this
    rw [e4,hS,Wi rfl];rfl
   ·rw [e3,WI hk];rfl
  ·have e1:X9 n at' ls t=ls:=by unfold X9;rw [Z4 h1,Z4 h2]
   have e2:W9 S t=S:=by unfold W9;rw [Z4 h1,Z4 h2]
   have Bg:=hc.2;rw [e2] at Bg;have ih:=Ox VQ ts S ls h Bg hb';show WX n at' (X9 n at' ls t) ts=Xx n at' (fun x=>S x && !(ts.foldl W9 (W9 S t)) x) ls∧LI n (ts.foldl W9 (W9 S t)) (WX n at' (X9 n at' ls t) ts);rw [e1,e2];exact ih
theorem K3 (n:Nat):∀ (l:List Nat) (R:Room),∀ t∈(Rm.Xm n l R).1,t.kind≠1
 | [],_,t,h=>by cases h
 | p :: l,R,t,h=>by
  have h:t∈(⟨3,p,n,0,0⟩ :: ⟨2,p,n,0,0⟩ :: (Rm.Xm n l (R.ZP n p Rm.U7)).1:List YB):=h;rcases KN.1 h with rfl|h
  ·show (3:Int)≠1;decide
  rcases KN.1 h with rfl|h
  ·show (2:Int)≠1;decide
  ·exact K3 n l _ t h
theorem L8 (R:Room) (n:Nat):∀ t∈(Rm.gone R n).1,t.kind≠1:=K3 n _ R
theorem Oq (p:Nat) (R:Room):∀ k,∀ t∈(Rm.ZM p R k).1,t.kind≠1
 | 0,t,h=>by cases h
 | k+1,t,h=>by
  unfold Rm.ZM at h;dsimp only at h;split at h
  ·rcases DN.1 h with h|h
   ·exact Oq p R k t h
   ·rw [J1] at h;subst h;show (2:Int)≠1;decide
  ·exact Oq p R k t h
theorem Ot (R:Room) (p:Nat):∀ k,∀ t∈(Rm.ZI R p k).1,t.kind≠1
 | 0,t,h=>by cases h
 | k+1,t,h=>by
  unfold Rm.ZI at h;dsimp only at h;split at h
  ·rcases DN.1 h with h|h
   ·exact Ot R p k t h
   ·exact L8 _ _ t h
  ·exact Ot R p k t h
theorem NF (R:Room) (p n:Nat):∀ t∈Rm.waits R p n,t.kind≠1:=fun t h=>by
 unfold Rm.waits at h;split at h
 ·cases h
 ·rw [J1] at h;subst h;show (9:Int)≠1;decide
theorem GW (R:Room) (n:Nat) (on:Bool):∀ t∈(Rm.mute R n on).1,t.kind≠1:=fun t h=>by
 have h:t∈(Rm.Z0 (R.Y5 n {R.src n with ZE:=on}) n).flatMap (Rm.Y0 (R.Y5 n {R.src n with ZE:=on}) n on):=h;rw [List.mem_flatMap] at h;obtain ⟨p,_,h⟩:=h;unfold Rm.Y0 at h;split at h
 ·rw [J1] at h;subst h;show (6:Int)≠1;decide
 ·rcases KN.1 h with rfl|h
  ·show (7:Int)≠1;decide
  ·exact NF _ _ _ t h
theorem A5 (R:Room) (o:Rm.Op) (sv:Value) (h6:o.kind≠6):∀ t∈(turns R o sv).1,t.kind≠1:=by
 intro t h;unfold turns at h;dsimp only at h;by_cases k2:o.kind=2
 ·rw [ZR k2] at h;cases h
 rw [Z4 k2] at h;by_cases k3:o.kind=3
 ·rw [ZR k3] at h;rcases DN.1 h with h|h
  ·exact Oq _ _ _ t h
  ·exact Ot _ _ _ t h
 rw [Z4 k3] at h;by_cases k4:o.kind=4
 ·rw [ZR k4] at h;cases h
 rw [Z4 k4] at h;by_cases k5:o.kind=5
 ·rw [ZR k5] at h;exact L8 _ _ t h
 rw [Z4 k5,Z4 h6] at h;by_cases k7:o.kind=7
 ·rw [ZR k7,J1] at h;subst h;show (2:Int)≠1;decide
 rw [Z4 k7] at h;by_cases k8:o.kind=8
 ·rw [ZR k8] at h;exact GW _ _ _ t h
 rw [Z4 k8] at h;by_cases k9:o.kind=9
 ·rw [ZR k9] at h;exact GW _ _ _ t h
 rw [Z4 k9] at h;by_cases k10:o.kind=10
 ·rw [ZR k10,J1] at h;subst h;show (4:Int)≠1;decide
 rw [Z4 k10] at h;by_cases k11:o.kind=11
 ·rw [ZR k11] at h;rcases KN.1 h with rfl|h
  ·show (5:Int)≠1;decide
  ·exact NF _ _ _ t h
 rw [Z4 k11] at h;by_cases k12:o.kind=12
 ·rw [ZR k12] at h;rcases KN.1 h with rfl|h
  ·show (8:Int)≠1;decide
  ·exact NF _ _ _ t h
 rw [Z4 k12] at h;cases h
theorem zL {R:Room} (hI:Inv R) (p x:Int):Rm.Good (opens R) (YS R p x).1.1 (opens (YS R p x).1.2)∧∀ t∈(YS R p x).1.1,t.kind≠1:=by
 unfold YS;split
 ·exact ⟨Rm.Good.nil _,fun t h=>by cases h⟩
 ·next h=>
  simp only [Bool.or_eq_true,Bool.not_eq_true',Pz,not_or,Bool.not_eq_false] at h;obtain ⟨m,hm,ht,-,he⟩:=Rm.P7 h.1.1
  have hb:1≤(Rm.of R x).1.toNat∧(Rm.of R x).1.toNat<9:=by
   have h1:=hI.YU m ht;rw [he];show 1≤(m:Int).toNat∧(m:Int).toNat<9;omega
  exact ⟨Rm.J9 R hb,L8 R _⟩
theorem K2 (p:Int):∀ (l:List Int) (R:Room),Inv R→V8 R→Rm.Good (opens R) (Ze p l R).1.1 (opens (Ze p l R).1.2)∧∀ t∈(Ze p l R).1.1,t.kind≠1
 | [],R,_,_=>⟨Rm.Good.nil _,fun t h=>by cases h⟩
 | x :: l,R,hI,hs=>by
  have h1:=zL hI p x;have h0:=QQ p [x] R hI hs;have h2:=K2 p l (YS R p x).1.2 h0.1 h0.2.1
  exact ⟨Rm.Good.append h1.1 h2.1,fun t h=>by
   rcases DN.1 h with h|h
   ·exact h1.2 t h
   ·exact h2.2 t h⟩
theorem Ag {R:Room} (hI:Inv R) (hs:V8 R) (p:Int) (i:Ro):Rm.Good (opens R) (Yf R p i).1.1 (opens (Yf R p i).1.2)∧∀ t∈(Yf R p i).1.1,t.kind≠1:=by
 unfold Yf;split
 ·exact ⟨Rm.Good.nil _,fun t h=>by cases h⟩
 split
 ·exact ⟨Rm.Good.nil _,fun t h=>by cases h⟩
 split
 ·exact K2 p _ R hI hs
 ·exact ⟨Rm.Good.nil _,fun t h=>by cases h⟩
theorem K9 (p:Int):∀ (l:List Ro) (R:Room),Inv R→V8 R→(∀ i∈l,S9 i)→Rm.Good (opens R) (ZC p l R).1.1 (opens (ZC p l R).1.2)∧∀ t∈(ZC p l R).1.1,t.kind≠1
 | [],R,_,_,_=>⟨Rm.Good.nil _,fun t h=>by cases h⟩
 | x :: l,R,hI,hs,hi=>by
  have h1:=Ag hI hs p x;have h0:=Ke hI hs p (hi x (List.mem_cons_self ..));have h2:=K9 p l (Yf R p x).1.2 h0.1 h0.2.1 (fun i h=>hi i (List.mem_cons_of_mem _ h))
  exact ⟨Rm.Good.append h1.1 h2.1,fun t h=>by
   rcases DN.1 h with h|h
   ·exact h1.2 t h
   ·exact h2.2 t h⟩
end Go.Proofs.By
namespace Go.Proofs.Rm
open Go.RowKit Go.Proofs.Heap Go.Proofs.Mem
open Go.Proofs.NM (may key)
def findAt {α:Type} (p:α→Bool) (l:List α):Int:=match l.findIdx? p with|some i=>i|none=> -1
theorem Og {α:Type} {p:α→Bool} {l:List α} {k:Nat} (hk:k<l.length) (hp:p l[k]=true) (hn:∀ j (h:j<l.length),j<k→p l[j]=false):findAt p l=k:=by
 unfold findAt
 have:l.findIdx? p=some k:=by
  rw [List.findIdx?_eq_some_iff_getElem];exact ⟨hk,hp,fun j hj=>by rw [hn j Zo hj];simp⟩
 rw [this]
theorem R9 {α:Type} {p:α→Bool} {l:List α} (hn:∀ j (h:j<l.length),p l[j]=false):findAt p l = -1:=by
 unfold findAt
 have:l.findIdx? p=none:=by
  rw [List.findIdx?_eq_none_iff];intro x hx;obtain ⟨j,hj,rfl⟩:=List.getElem_of_mem hx;exact hn j hj
 rw [this]
theorem Gl {α β:Type} (f:α→β) (p:β→Bool) (l:List α):findAt p (l.map f)=findAt (fun x=>p (f x)) l:=by
 unfold findAt;rw [List.findIdx?_map];rfl
theorem XI {α:Type} {p:α→Bool} {l:List α} (h:0≤findAt p l):∃ (k:Nat) (hk:k<l.length),findAt p l=k∧p l[k]=true∧∀ j (h:j<l.length),j<k→p l[j]=false:=by
 unfold findAt at h ⊢;cases hf:l.findIdx? p with
 | none=>rw [hf] at h;exact absurd h Zd
 | some k=>
  obtain ⟨hk,hp,hn⟩:=List.findIdx?_eq_some_iff_getElem.1 hf;exact ⟨k,hk,rfl,hp,fun j h hj=>by have:=hn j hj;simpa using this⟩
def ZN.XF (T:ZN) (n:Int):Int:=findAt (fun x:Vc=>x.num == n) T.ZA
def ZN.YU (T:ZN) (n:Int):Int:=findAt (fun x:Wl=>x.num == n) T.Yg
def ZN.Y9 (T:ZN) (p s:Int):Int:=findAt (fun x:Va=>x.peer == p && x.source == s) T.Z0
def UG:Wl:=⟨0,0,[],false⟩
def ZN.Wb (T:ZN) (n:Int):Wl:=T.Yg.getD (T.YU n).toNat UG
def ZN.owner (T:ZN) (n:Int):Int:=if T.YU n<0 then 0 else (T.Wb n).own
def ZN.Vt (T:ZN) (n:Int) (k:Nat):List Nat:=((List.range k).map (· + 1)).filter fun p:Nat=>decide (0≤T.Y9 p n)
def ZN.Zv (T:ZN) (n:Int):List Nat:=T.Vt n 8
theorem Cl (T:ZN) (n:Int) (k:Nat):T.Vt n (k+1)=T.Vt n k++if 0≤T.Y9 ((k:Int)+1) n then [k+1] else []:=by
 unfold ZN.Vt;rw [qE,NR,List.filter_append]
 congr 1
 have:((k+1:Nat):Int)=(k:Int)+1:=by omega
 by_cases h:0≤T.Y9 ((k:Int)+1) n <;> simp [h]
theorem Sa (T:ZN) (n:Int) (k:Nat):(T.Vt n k).length≤k:=by
 unfold ZN.Vt;have:=List.length_filter_le (fun p:Nat=>decide (0≤T.Y9 p n)) ((List.range k).map (· + 1));rw [TB,List.length_range] at this;exact this
def ZN.RH (T:ZN) (x:Int):Int:=findAt (fun s:Wl=>s.ss.contains x) T.Yg
def ZN.of (T:ZN) (x:Int):Int × Int × Bool:=if T.RH x<0 then (0,0,false) else ((T.Yg.getD (T.RH x).toNat UG).num,index (T.Yg.getD (T.RH x).toNat UG).ss x,true)
def ZN.Vv (T:ZN) (l:List Int) (i:Nat):Bool:=(l.take i).contains (l.getD i 0) || (T.of (l.getD i 0)).2.2
def ZN.TM (T:ZN) (o:Op) (at':Int):Int:=
 if o.ZK.length<1∨3<o.ZK.length then 5
 else if o.ZK.any (fun s=>decide (s<2) || decide (3221225472≤s)) then 5
 else if 0≤at' then 9
 else if (List.range o.ZK.length).any (T.Vv o.ZK) then 9 else 0
def pG:Va:=⟨0,0,0,false⟩
def ZN.OD (T:ZN) (p s:Int):Va:=T.Z0.getD (T.Y9 p s).toNat pG
def PW (s:Wl) (q:Int):Bool:=decide (0≤q) && decide (q<s.ss.length)
def ZN.Xk (T:ZN) (o:Op) (s:Wl):Int:=
 if o.kind=5∨o.kind=8∨o.kind=9 then
  (if s.own≠o.peer then 10 else if o.kind=8∧s.ZE=true then 9 else if o.kind=9∧s.ZE=false then 11 else 0)
 else if o.kind=6 then
  (if s.own=o.peer then 10 else if 0≤T.Y9 o.peer o.source then 9 else if PW s o.ZH then 0 else 5)
 else if T.Y9 o.peer o.source<0 then 8
 else if o.kind=10∧(T.OD o.peer o.source).ZQ=true then 9
 else if o.kind=11∧(T.OD o.peer o.source).ZQ=false then 11
 else if o.kind=12∧PW s o.ZH=false then 5
 else if o.kind=12∧(T.OD o.peer o.source).want=o.ZH then 9
 else 0
def ZN.X4 (T:ZN) (o:Op):Int:=
 if o.kind<2∨12<o.kind then 4
 else if o.peer<1∨8<o.peer then 5
 else if o.kind=2 then
  (if 0≤T.XF o.peer then 9 else if !may o.name then 12 else if T.ZA.any (fun x=>decide (key x.name=key o.name)) then 9 else 0)
 else if T.XF o.peer<0 then 8
 else if o.kind=3 then 0
 else if o.source<1∨8<o.source then 5
 else if o.kind=4 then T.TM o (T.YU o.source)
 else if T.YU o.source<0 then 8
 else T.Xk o (T.Wb o.source)
def ZN.ask (T:ZN) (x:Va):YB:=⟨9,(T.Wb x.source).own,(T.Wb x.source).num,0,(T.Wb x.source).ss.getD x.want.toNat 0⟩
def ZN.WN (T:ZN) (p s:Int):ZN:={T with Z0:=T.Z0.eraseIdx (T.Y9 p s).toNat}
def ZN.Ud (T:ZN) (n:Int):ZN:={T with Yg:=T.Yg.eraseIdx (T.YU n).toNat}
def ZN.OA (T:ZN) (n:Int):ZN:={T with ZA:=T.ZA.eraseIdx (T.XF n).toNat}
def ZN.Yc (n:Int):List Nat→ZN→List YB × ZN
 | [],T=>([],T)
 | p :: l,T=>let x:=ZN.Yc n l (T.WN p n);(⟨3,p,n,0,0⟩ :: ⟨2,p,n,0,0⟩ :: x.1,x.2)
def ZN.Yo (T:ZN) (n:Int):List YB × ZN:=((ZN.Yc n (T.Zv n) T).1,(ZN.Yc n (T.Zv n) T).2.Ud n)
structure ZL (w:World) (b:Nat) (T:ZN):Prop where
 Vw:∃ pv sv uv,w.heap[b]?=some (.cells #[pv,sv,uv] 91)∧IW w pv sv uv T
theorem ZL.lt {w:World} {b:Nat} {T:ZN} (h:ZL w b T):b<w.heap.size:=by
 obtain ⟨_,_,_,hc,_⟩:=h.Vw;rcases Nat.lt_or_ge b w.heap.size with h|h
 ·exact h
 ·rw [E7 h] at hc;cases hc
theorem ZL.below {w w':World} {b:Nat} {T:ZN} (h:ZL w b T) (hb:Below w w w'):ZL w' b T:=by
 have hl:=h.lt;obtain ⟨pv,sv,uv,hc,ht⟩:=h.Vw;exact ⟨pv,sv,uv,by rw [hb.block b hl];exact hc,ht.below hb⟩
theorem cell_of {w:World} {b:Nat} {cs:Array Value} {e:TypeId} (h:w.heap[b]?=some (.cells cs e)) (j:Nat):w.cell? ⟨b,j,none⟩=cs[j]?:=by
 simp only [World.cell?,h];rfl
end Go.Proofs.Rm
