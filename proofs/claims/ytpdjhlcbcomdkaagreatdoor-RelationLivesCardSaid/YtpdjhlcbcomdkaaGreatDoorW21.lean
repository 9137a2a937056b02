/- Part of a proof. -/
import Derived.Test.YtpdjhlcbcomdkaaGreatDoorW20
set_option linter.unusedVariables false
set_option linter.unusedSimpArgs false
set_option maxRecDepth 100000
set_option maxHeartbeats 16000000
open Go Go.Q Go.Qr
namespace Go.Proofs.By
open Go.RowKit Go.Proofs.Heap
open Go.Proofs.Rm (ZN WL Inv Room of Vw Zx Vx)
theorem EY {T:ZN} {R:Room} (h:WL T R) (hI:Inv R) (p x:Int):((T.of x).2.2=true∧T.owner (T.of x).1=p)↔owned R p x=true:=by
 rw [h.of_eq hI]
 unfold owned
 rw [TU,Oh]
 refine and_congr_right fun ho=>?_
 obtain ⟨m,hm,ht,_,he⟩:=Rm.QI ho
 have hn:=hI.YU m ht
 rw [he]
 show T.owner (m:Int)=p↔(R.src ((m:Int)).toNat).own=p
 rw [h.owner,ZQ (Vx.2 ⟨Zo,Zo,by simpa using ht⟩)]
theorem t_ {T:ZN} {R:Room} (h:WL T R) (p x:Int):((Vg x).2.2=true∧(Vg x).1=p∧0≤T.Zb (Vg x).1 (Vg x).2.1)↔UG R p x=true:=by
 unfold UG
 rw [TU,TU,Oh,and_assoc]
 refine and_congr_right fun _=>and_congr_right fun e=>?_
 rw [h.Zb,e]
open Go.Proofs.Rm (YD Vj Wa opens)
def Ev.kd:Ev→Int | .none=>0 | .X7 _ _=>1 | .XV _=>2
def Ev.pk:Ev→KZ | .none=>WU | .X7 p _=>p | .XV _=>WU
def Ev.ds:Ev→F3 | .none=>TG | .X7 _ d=>d | .XV _=>TG
def Ev.il:Ev→List RF | .none=>[] | .X7 _ _=>[] | .XV l=>l
def sM (o:Rm.Op) (b:List UInt8):Ev:=if o.kind=1 then (XJ b).1 else .none
def kq (L:List VG) (k:Nat):Ev:=match L[k]? with
 | some y=>sM y.x.o y.b
 | none=> .none
def zZ (L:List VG) (k:Nat):List Ev:=(List.range k).map (kq L)
theorem wO (L:List VG) (k:Nat):zZ L (k+1)=zZ L k++[kq L k]:=by unfold zZ;rw [ru,N7];rfl
def PX (L:List VG):Nat→O7
 | 0=>qh
 | k+1=>(PX L k).add (ZX L k).XE.kind (ZX L k).unknown
end Go.Proofs.By
namespace Go.Proofs.By
open Go.RowKit Go.Proofs.Heap
theorem lK {base:Nat} {e:TypeId} {size:Nat} {v:Value} {n:Nat} {xs:List Value} {w:World} (h:w.ownsRow base e size v n xs):∀ k,v.ownBlock=some k→k<w.heap.size:=by
 intro k hk
 obtain ⟨_,h⟩:=h
 rcases h with ⟨rfl,_⟩|⟨g,cap,cur,rfl,hg,hh,_⟩
 ·cases hk
 ·have hk:some g=some k:=hk
  cases hk
  exact u9 hh
theorem Dw (v:Value) (b:List UInt8) (w:World) (hv:X9 w v b) (h0:(right b).2=0) :
  Calls Tryz.prog 170 #[v] w fun e w'=>(∃ a,e = .returned (.tuple #[a,.int .i64 (X4 b).1.2,.int .i64 (X4 b).2])∧Td w' a (X4 b).1.1)∧Below w w w':=by
 have HX:Hid (X4 b=((report b,(right b).1),0)):=by show _=_;unfold X4;rw [Z4 (by simp [h0])]
 have C:=fun w1 h=>EZ v b w1 (hv.below (h:Below w w w1))
 have HC:=Zh C
 have HV:Hid (∀ w',Below w w w'→X9 w' v b):=fun w' h=>hv.below h
 have hb4':=(Ho h0).1
 obtain ⟨g,off,c,rfl,Sg,BC,W9⟩:=R7 hv Zo
 clear C hv
 obtain ⟨OE,hk,h15,-,hlen⟩:=Ho h0
 generalize X4 b=X at *
 generalize right b=Y at *
 obtain ⟨Y1,Y2⟩:=Y
 obtain rfl:Y2=0:=h0
 go_enter Tryz.func170,Tryz.ntmps170
 go_wp2_with fail
 refine (HC.o _ (Z' _ _)).mono ?_
 rintro e w2 ⟨rfl,Y0⟩
 clear HC
 have y2:=Y0.block w.heap.size Ca
 rw [Z7] at y2
 have Sr:w.heap.size+1≤w2.heap.size:=by have h:=Y0.size;have h:(w.heap.push _).size≤w2.heap.size:=h;rw [O6] at h;exact h
 have Y2H:=Zh y2
 clear y2
 go_wp2_with fail
 have VH:Below w w w2:=(Z' w _).trans (Y0.mono nJ)
 have bO:Hid (TV (w2.alloc (.cells (Q6 (some ⟨g,off,none⟩) b.length c 4) 264)).drew w2.heap.size (.slice (some ⟨g,off,none⟩) b.length c) 4):=Z7 _ _
 have HRB3:Hid (RB w (w2.alloc (.cells (Q6 (some ⟨g,off,none⟩) b.length c 4) 264)).drew w2.heap.size (.slice (some ⟨g,off,none⟩) b.length c) 4 Yz1):=
  ⟨(VH.trans ((Z' w2 _).mono VH.size)).drew,by show (w2.alloc _).heap[w.heap.size]?=_;rw [(Z' w2 _).block w.heap.size Zo];exact Y2H.o,bO.o,Zo⟩
 have Zz:Hid (∀ w',Below w w w'→w'.cell? ⟨g,off+1,none⟩=some (.int .u8 (at8 b 1:Int))∧Below w w w'):=fun w' h=>by
  obtain ⟨_,_,_,e,_,_,hc⟩:=R7 (HV.o w' h) Zo
  cases e
  exact ⟨hc 1 Zo,h⟩
 have aW:(1:Int)<(b.length:Int):=by omega
 have hbN:1<b.length:=by omega
 have S9:=Xo b 1
 have hg4:get b 4 4<4294967296:=Va b 4 4 4 Zd
 have HW:=Zh (Kg w2.heap.size _ b 4 _ bO.o (HV.o _ (VH.trans ((Z' w2 _).mono VH.size)).drew) Zo)
 have hzz:w.heap.size<w2.heap.size:=by omega
 clear Y0
 have HK:=Zh hk
 have BO:=Zh hlen
 have H15:=Zh h15
 have rS:Hid (report b=⟨(at8 b 1:Int),get b 4 4,if at8 b 1=200 then (get b 8 8:Int) else 0,if at8 b 1=200 then (get b 16 4:Int) else 0,if at8 b 1=200 then (get b 20 4:Int) else 0,if at8 b 1=200 then (get b 24 4:Int) else 0,(List.range (at8 b 0 % 32)).map fun (i:Nat)=>Oi b ((if at8 b 1=200 then 28 else 8)+24*i),[],0,[]⟩):=rfl
 clear hk hlen hb4' h15 Sg BC
 generalize at8 b 1=kd at *
 have hkw:IntKind.i64.wrap (kd:Int)=(kd:Int):=Ty _ Zo
 refine Sd ?_
 refine wp_region_held_drew (S:=(fun w'=>w'.cell? ⟨g,off+1,none⟩=some (.int .u8 (kd:Int))∧Below w w w')) ZB ?_ (fun XC=>?_)
 ·(try dsimp only)
  exact Zz.o _ (VH.trans ((Z' w2 _).mono VH.size)).drew
 refine YA 0 (h:=YA 1 (h:=YA 2 (h:=YA 3 (h:=YA 4 (h:=?_)))))
 refine wpAnyH_ready (rs:=[5]) ZB Zi ?_
 refine AllReadyH.cons (i:=5) rfl (fun K hK=>?_) ?_
 ·go_simp
  (refine HW.o.mono ?_;rintro e w4 ⟨rfl,he4,iz⟩;have jx:=Zh (HRB3.o.move he4 iz);have OE:Below w w w4:=jx.o.Zj)
  go_wp2_with fail
  refine hK.out _ _ ?_ (fun VE=>?_)
  ·(try dsimp only)
   exact Zz.o _ OE
  clear hK K
  try simp only [Z_.pt]
  refine YA 6 (h:=?_)
  refine Si 7 (h:=fun K hK=>?_)
  refine Sz Zr 173 (.tmp 2) (.tmp 25) Zr Zr w.heap.size (Qd (kd:Int) (get b 4 4:Nat) 0 0 0 0 none 0 0 none 0 0 0 none 0 0) Zr Zr 173 _ jx.o.Za ZB ZB ZB ?_
  have BU:=Zh (jx.o.row (Qd (kd:Int) (get b 4 4:Nat) 0 0 0 0 none 0 0 none 0 0 0 none 0 0))
  refine hK.out _ _ (Zz.o _ BU.o.Zj) (fun _=>?_)
  clear hK K
  try simp only [Z_.pt]
  refine wpAnyH_done ZB ?_ _
  refine QY ?_
  have hbe:=BU.o.Zj
  have z0:(w4.setRow w.heap.size (Qd (kd:Int) (get b 4 4:Nat) 0 0 0 0 none 0 0 none 0 0 0 none 0 0)).cell? ⟨w,0,none⟩=some (.int .i64 (kd:Int)):=BU.o.cell 0
  have bY:Hid (RB w (w4.setRow w.heap.size (Qd (kd:Int) (get b 4 4:Nat) 0 0 0 0 none 0 0 none 0 0 0 none 0 0)) w2.heap.size (.slice (some ⟨g,off,none⟩) b.length c) 8 (Qd (kd:Int) (get b 4 4:Nat) 0 0 0 0 none 0 0 none 0 0 0 none 0 0)):=BU.o
  clear HRB3 jx BU HW bO OE he4 iz XC VE Zz aW hbN Y2H VH hkw
  generalize w4.setRow w.heap.size (Qd (kd:Int) (get b 4 4:Nat) 0 0 0 0 none 0 0 none 0 0 0 none 0 0)=w5 at *
  clear Sr
  clear w4
  generalize w2.heap.size=k at *
  clear w2
  obtain ⟨P0,BR⟩:∃ P0:Nat,Hid (P0=if kd=200 then 28 else 8):=⟨_,rfl⟩
  obtain ⟨N2,qY⟩:∃ x:Int,Hid (x=if kd=200 then (get b 8 8:Int) else 0):=⟨_,rfl⟩
  obtain ⟨N3,yM⟩:∃ x:Int,Hid (x=if kd=200 then (get b 16 4:Int) else 0):=⟨_,rfl⟩
  obtain ⟨N4,L9⟩:∃ x:Int,Hid (x=if kd=200 then (get b 20 4:Int) else 0):=⟨_,rfl⟩
  obtain ⟨N5,L_⟩:∃ x:Int,Hid (x=if kd=200 then (get b 24 4:Int) else 0):=⟨_,rfl⟩
  go_upto_if 28 with fail
  go_cut [] (fun wx=>RB w wx k (.slice (some ⟨g,off,none⟩) b.length c) P0 (Qd (kd:Int) (get b 4 4:Nat) N2 N3 N4 N5 none 0 0 none 0 0 0 none 0 0))
  case first=>
   by_cases IU:kd=200
   ·have bk:((kd:Int) == 200)=true:=by rw [beq_iff_eq];omega
    have CG:Hid (Calls Tryz.prog 181 (Qj (some ⟨k,0,none⟩) 8) w5 fun e w'=>e = .returned (.int .u64 (get b 8 8:Nat))∧RB w w' k (.slice (some ⟨g,off,none⟩) b.length c) 16 (Qd (kd:Int) (get b 4 4:Nat) 0 0 0 0 none 0 0 none 0 0 0 none 0 0)∧Fr w5 (· = k) w5 w'):=bY.o.get HV.o Zo 8 Zo
    have hP:P0=28:=by rw [BR.o,ZQ IU]
    have h2:N2=(get b 8 8:Int):=by rw [qY.o,ZQ IU]
    have h3:N3=(get b 16 4:Int):=by rw [yM.o,ZQ IU]
    have h4:N4=(get b 20 4:Int):=by rw [L9.o,ZQ IU]
    have h5:N5=(get b 24 4:Int):=by rw [L_.o,ZQ IU]
    subst hP h2 h3 h4 h5
    clear BR qY yM L9 L_ IU
    go_wp2_with fail
    refine CG.o.mono ?_
    rintro e w6 ⟨rfl,hrb6,-⟩
    have CW6:Hid (Calls Tryz.prog 180 #[.pointer (some ⟨k,0,none⟩)] w6 fun e w'=>e = .returned (.int .u32 (get b 16 4:Nat))∧RB w w' k (.slice (some ⟨g,off,none⟩) b.length c) 20 (Qd (kd:Int) (get b 4 4:Nat) 0 0 0 0 none 0 0 none 0 0 0 none 0 0)∧Fr w6 (· = k) w6 w'):=hrb6.word HV.o Zo
    clear hrb6
    go_wp2_with fail
    refine CW6.o.mono ?_
    rintro e w7 ⟨rfl,hrb7,-⟩
    have CW7:Hid (Calls Tryz.prog 180 #[.pointer (some ⟨k,0,none⟩)] w7 fun e w'=>e = .returned (.int .u32 (get b 20 4:Nat))∧RB w w' k (.slice (some ⟨g,off,none⟩) b.length c) 24 (Qd (kd:Int) (get b 4 4:Nat) 0 0 0 0 none 0 0 none 0 0 0 none 0 0)∧Fr w7 (· = k) w7 w'):=hrb7.word HV.o Zo
    clear hrb7
    go_wp2_with fail
    refine CW7.o.mono ?_
    rintro e w8 ⟨rfl,hrb8,-⟩
    have CW8:Hid (Calls Tryz.prog 180 #[.pointer (some ⟨k,0,none⟩)] w8 fun e w'=>e = .returned (.int .u32 (get b 24 4:Nat))∧RB w w' k (.slice (some ⟨g,off,none⟩) b.length c) 28 (Qd (kd:Int) (get b 4 4:Nat) 0 0 0 0 none 0 0 none 0 0 0 none 0 0)∧Fr w8 (· = k) w8 w'):=hrb8.word HV.o Zo
    clear hrb8
    go_wp2_with fail
    refine CW8.o.mono ?_
    rintro e w9 ⟨rfl,FB,-⟩
    have z2:w9.cell? ⟨w,2,none⟩=some (.int .u64 0):=FB.cell 2
    have z3:w9.cell? ⟨w,3,none⟩=some (.int .u32 0):=FB.cell 3
    have z4:w9.cell? ⟨w,4,none⟩=some (.int .u32 0):=FB.cell 4
    have z5:w9.cell? ⟨w,5,none⟩=some (.int .u32 0):=FB.cell 5
    have f2:=FB.frozen 2
    have f3:=FB.frozen 3
    have f4:=FB.frozen 4
    have f5:=FB.frozen 5
    have HF:=Zh ((((FB.set 2 (.int .u64 (get b 8 8:Nat))).set 3 (.int .u32 (get b 16 4:Nat))).set 4 (.int .u32 (get b 20 4:Nat))).set 5 (.int .u32 (get b 24 4:Nat)))
    clear FB
    go_wp2_with fail
    go_meet
    exact HF.o
   ·have bk:((kd:Int) == 200)=false:=by rw [WQ];omega
    have hP:P0=8:=by rw [BR.o,Z4 IU]
    have h2:N2=0:=by rw [qY.o,Z4 IU]
    have h3:N3=0:=by rw [yM.o,Z4 IU]
    have h4:N4=0:=by rw [L9.o,Z4 IU]
    have h5:N5=0:=by rw [L_.o,Z4 IU]
    subst hP h2 h3 h4 h5
    clear BR qY yM L9 L_ IU
    go_wp2_with fail
    go_meet
    exact bY.o
  case rest=>
   obtain ⟨W5,rfl⟩:∃ W:World,W=wc:=⟨_,rfl⟩
   obtain ⟨_,_,_,e1,_,_,kP⟩:=R7 (HV.o _ hcut.Zj) Zo
   cases e1
   have d0:W5.cell? ⟨g,off,none⟩=some (.int .u8 (at8 b 0:Int)):=kP 0 Zo
   have ha:=Cf (at8 b 0) (Xo b 0)
   have hm15:=H15.o
   have hP28:P0≤28:=by rw [BR.o];split <;> omega
   have hRP:report b=⟨(kd:Int),get b 4 4,N2,N3,N4,N5,(List.range (at8 b 0 % 32)).map fun (i:Nat)=>Oi b (P0+24*i),[],0,[]⟩:=by rw [rS.o,BR.o,qY.o,yM.o,L9.o,L_.o]
   have HRP2:=Zh hRP
   have HCUT:=Zh hcut
   clear kP hcut rS BR qY yM L9 L_ bY z0 hbe hRP HK H15 BO W9
   generalize at8 b 0 % 32=m at *
   obtain ⟨BL,hBL⟩:∃ BL:List rG,BL=(List.range m).map fun (i:Nat)=>Oi b (P0+24*i):=⟨_,rfl⟩
   have bH:Hid (BL.length=m):=by show _=_;rw [hBL];simp
   have HBLs:Hid (∀ j,j<m→BL.take (j+1)=BL.take j++[Oi b (P0+24*j)]):=fun j hj=>by
    rw [List.take_succ_eq_append_getElem (by rw [bH.o];exact hj)]
    simp [hBL]
   rw [←hBL] at HRP2
   clear hBL
   have HR0:Hid (RL w W5 k (.slice (some ⟨g,off,none⟩) b.length c) P0 (Qd (kd:Int) (get b 4 4:Nat) N2 N3 N4 N5 none 0 0 none 0 0 0 none 0 0) (.slice none 0 0) 0 []):=⟨HCUT.o,Ua _ _ _ _⟩
   clear HCUT
   go_upto_region 9 with fail
   go_loopw [45] (fun i w'=>∃ (j:Nat) (bv:Value),j≤m∧i = .int .u8 (j:Int)∧RL w w' k (.slice (some ⟨g,off,none⟩) b.length c) (P0+24*j) (Jb (kd:Int) (get b 4 4:Nat) N2 N3 N4 N5 bv none 0 0 0 none 0 0) bv j ((BL.take j).flatMap Xf)) (fun i _=>m-(intOf i).toNat)
   case atStart=>exact ⟨0,_,Tw _,rfl,HR0.o⟩
   case round=>
    clear HR0
    obtain ⟨j,bv0,hj,rfl,hrl⟩:=hrel
    obtain ⟨yO,yP,hbv0,-,-⟩:=Row.Z6 hrl.own
    subst hbv0
    have rf:=Zh hrl
    clear hrl
    by_cases Am:j<m
    ·have VQ:=Zh (HBLs.o j Am)
     obtain ⟨p,hp⟩:∃ p,p=P0+24*j:=⟨_,rfl⟩
     have Ex:p≤1000:=by omega
     rw [←hp] at VQ rf
     obtain ⟨cs,Tz⟩:∃ cs:List Value,cs=(Jb (kd:Int) (get b 4 4:Nat) N2 N3 N4 N5 (.slice yO j yP) none 0 0 0 none 0 0):=⟨_,rfl⟩
     obtain ⟨xs,Iq⟩:∃ xs:List Value,xs=(BL.take j).flatMap Xf:=⟨_,rfl⟩
     rw [←Tz,←Iq] at rf
     have bL:=Zh Tz
     have HXSE:=Zh Iq
     clear Tz Iq
     have HPN:Hid (P0+24*(j+1)=p+24):=by show _=_;rw [hp];omega
     clear hp
     have HBC:Hid (Xf (Oi b p)=(Q.Qr (get b (p:Nat) 4:Nat) (get b (p+4:Nat) 1:Nat) (get b (p+5:Nat) 3:Nat) (get b (p+8:Nat) 4:Nat) (get b (p+12:Nat) 4:Nat) (get b (p+16:Nat) 4:Nat) (get b (p+20:Nat) 4:Nat))):=rfl
     have CS:=fun q (hq:q≤2000) w1 bv xs j cs (h:RL w w1 k (.slice (some ⟨g,off,none⟩) b.length c) q cs bv j xs)=>h.word (b:=b) HV.o Zo
     have CG:=fun q (hq:q≤2000) w1 bv xs j cs (h:RL w w1 k (.slice (some ⟨g,off,none⟩) b.length c) q cs bv j xs) r hr=>h.get (b:=b) HV.o Zo r hr
     have lU:=Zh CS
     have qU:=Zh CG
     clear CS CG
     have x0b:get b (p:Nat) 4<4294967296:=Va b _ 4 4 Zd
     have x1b:get b (p+4:Nat) 1<256:=Va b _ 1 1 Zd
     have x2b:get b (p+5:Nat) 3<4294967296:=Pb (Va b _ 3 3 Zd) Zd
     generalize h0:get b (p:Nat) 4=x0 at *
     generalize h1:get b (p+4:Nat) 1=x1 at *
     generalize h2:get b (p+5:Nat) 3=x2 at *
     generalize h3:get b (p+8:Nat) 4=x3 at *
     generalize h4:get b (p+12:Nat) 4=x4 at *
     generalize h5:get b (p+16:Nat) 4=x5 at *
     generalize h6:get b (p+20:Nat) 4=x6 at *
     have HG0:=Zh h0
     have O5:=Zh h1
     have KS:=Zh h2
     have HG3:=Zh h3
     have HG4:=Zh h4
     have jl:=Zh h5
     have zq:=Zh h6
     clear h0 h1 h2 h3 h4 h5 h6
     have C1:Hid (Calls Tryz.prog 180 #[.pointer (some ⟨k,0,none⟩)] wr fun e w'=>e = .returned (.int .u32 (x0:Nat))∧RL w w' k (.slice (some ⟨g,off,none⟩) b.length c) (p+4) cs (.slice yO j yP) j xs∧Fr wr (· = k) wr w'):=by have:=lU.o p Zo _ _ _ _ _ rf.o;rw [HG0.o] at this;exact this
     go_wp2_with fail
     refine C1.o.mono ?_
     rintro e v1 ⟨rfl,eF,-⟩
     have KT:=Zh eF
     clear eF C1
     have C2:Hid (Calls Tryz.prog 181 (Qj (some ⟨k,0,none⟩) 1) v1 fun e w'=>e = .returned (.int .u64 (x1:Nat))∧RL w w' k (.slice (some ⟨g,off,none⟩) b.length c) (p+5) cs (.slice yO j yP) j xs∧Fr v1 (· = k) v1 w'):=by have:=qU.o (p+4) Zo _ _ _ _ _ KT.o 1 Zo;rw [←O5.o];exact this
     go_wp2_with fail
     refine C2.o.mono ?_
     rintro e v2 ⟨rfl,Nf,-⟩
     have uF:=Zh Nf
     clear Nf C2
     have C3:Hid (Calls Tryz.prog 181 (Qj (some ⟨k,0,none⟩) 3) v2 fun e w'=>e = .returned (.int .u64 (x2:Nat))∧RL w w' k (.slice (some ⟨g,off,none⟩) b.length c) (p+8) cs (.slice yO j yP) j xs∧Fr v2 (· = k) v2 w'):=by have:=qU.o (p+5) Zo _ _ _ _ _ uF.o 3 Zo;rw [←KS.o];exact this
     go_wp2_with fail
     refine C3.o.mono ?_
     rintro e v3 ⟨rfl,FA,-⟩
     have zx:=Zh FA
     clear FA C3
     have jw:=Zh (zx.o.below (Z' v3 (.cells (Q.Qr (x0:Nat) (x1:Nat) (x2:Nat) 0 0 0 0) 228)))
     have zh:Hid ((v3.alloc (.cells (Q.Qr (x0:Nat) (x1:Nat) (x2:Nat) 0 0 0 0) 228)).heap[v3.heap.size]?=some (.cells (Q.Qr (x0:Nat) (x1:Nat) (x2:Nat) 0 0 0 0) 228)):=Z7 _ _
     have iA:k<v3.heap.size:=zx.o.rb.tL
     have hwk:w.heap.size<k:=zx.o.rb.lt
     have HOB:Hid (∀ i,(Value.slice yO j yP).ownBlock=some i→i≠v3.heap.size):=fun i hi e=>by
      have:=lK zx.o.own i hi
      omega
     have C4:Hid (Calls Tryz.prog 180 #[.pointer (some ⟨k,0,none⟩)] (v3.alloc (.cells (Q.Qr (x0:Nat) (x1:Nat) (x2:Nat) 0 0 0 0) 228)) fun e w'=>e = .returned (.int .u32 (x3:Nat))∧RL w w' k (.slice (some ⟨g,off,none⟩) b.length c) (p+12) cs (.slice yO j yP) j xs∧Fr (v3.alloc (.cells (Q.Qr (x0:Nat) (x1:Nat) (x2:Nat) 0 0 0 0) 228)).heap.size (· = k) (v3.alloc (.cells (Q.Qr (x0:Nat) (x1:Nat) (x2:Nat) 0 0 0 0) 228)) w'):=by have:=lU.o (p+8) Zo _ _ _ _ _ jw.o;rw [←HG3.o];exact this
     go_wp2_with fail
     refine C4.o.mono ?_
     rintro e v4 ⟨rfl,Ap,iz⟩
     have HK4:=Zh (Cs iz zh.o iA)
     have aD:=Zh Ap
     clear Ap iz C4 zh jw zx uF KT
     generalize v3.heap.size=q at *
     clear v3
     have C5:Hid (Calls Tryz.prog 180 #[.pointer (some ⟨k,0,none⟩)] v4 fun e w'=>e = .returned (.int .u32 (x4:Nat))∧RL w w' k (.slice (some ⟨g,off,none⟩) b.length c) (p+16) cs (.slice yO j yP) j xs∧Fr v4 (· = k) v4 w'):=by have:=lU.o (p+12) Zo _ _ _ _ _ aD.o;rw [←HG4.o];exact this
     go_wp2_with fail
     refine C5.o.mono ?_
     rintro e v5 ⟨rfl,hr5,sX⟩
     have HK5:=Zh (Cs sX HK4.o iA)
     have HR5:=Zh hr5
     clear hr5 sX C5 aD HK4
     have C6:Hid (Calls Tryz.prog 180 #[.pointer (some ⟨k,0,none⟩)] v5 fun e w'=>e = .returned (.int .u32 (x5:Nat))∧RL w w' k (.slice (some ⟨g,off,none⟩) b.length c) (p+20) cs (.slice yO j yP) j xs∧Fr v5 (· = k) v5 w'):=by have:=lU.o (p+16) Zo _ _ _ _ _ HR5.o;rw [←jl.o];exact this
     go_wp2_with fail
     refine C6.o.mono ?_
     rintro e v6 ⟨rfl,hr6,hf6⟩
     have HK6:=Zh (Cs hf6 HK5.o iA)
     have zy:=Zh hr6
     clear hr6 hf6 C6 HR5 HK5
     have C7:Hid (Calls Tryz.prog 180 #[.pointer (some ⟨k,0,none⟩)] v6 fun e w'=>e = .returned (.int .u32 (x6:Nat))∧RL w w' k (.slice (some ⟨g,off,none⟩) b.length c) (p+24) cs (.slice yO j yP) j xs∧Fr v6 (· = k) v6 w'):=by have:=lU.o (p+20) Zo _ _ _ _ _ zy.o;rw [←zq.o];exact this
     go_wp2_with fail
     refine C7.o.mono ?_
     rintro e v7 ⟨rfl,lh,kS⟩
     have Es:=Cs kS HK6.o iA
     have u3:v7.cell? ⟨q,3,none⟩=some (.int .u32 0):=cell_of Es 3
     have u4:v7.cell? ⟨q,4,none⟩=some (.int .u32 0):=cell_of Es 4
     have u5:v7.cell? ⟨q,5,none⟩=some (.int .u32 0):=cell_of Es 5
     have u6:v7.cell? ⟨q,6,none⟩=some (.int .u32 0):=cell_of Es 6
     have f3:=ZO Es 3
     have f4:=ZO Es 4
     have f5:=ZO Es 5
     have f6:=ZO Es 6
     have lf:=Ij Es 3 (.int .u32 (x3:Nat))
     have UN:=Ij lf 4 (.int .u32 (x4:Nat))
     have pg:=Ij UN 5 (.int .u32 (x5:Nat))
     have hk11:=Ij pg 6 (.int .u32 (x6:Nat))
     have jv:=Zh ((((lh.other Es (o:=3) iA HOB.o (.int .u32 (x3:Nat))).other lf (o:=4) iA HOB.o (.int .u32 (x4:Nat))).other UN (o:=5) iA HOB.o (.int .u32 (x5:Nat))).other pg (o:=6) iA HOB.o (.int .u32 (x6:Nat)))
     have vP:=Zh hk11
     clear Es lf UN pg hk11 lh kS C7 zy HK6
     go_upto_region 12 with fail
     clear u3 u4 u5 u6 f3 f4 f5 f6
     generalize (((v7.setCell ⟨q,3,none⟩ (.int .u32 (x3:Nat))).setCell ⟨q,4,none⟩ (.int .u32 (x4:Nat))).setCell ⟨q,5,none⟩ (.int .u32 (x5:Nat))).setCell ⟨q,6,none⟩ (.int .u32 (x6:Nat))=v8 at *
     clear v7
     have c0:v8.cell? ⟨q,0,none⟩=some (.int .u32 (x0:Nat)):=cell_of vP.o 0
     have c1:v8.cell? ⟨q,1,none⟩=some (.int .u8 (x1:Nat)):=cell_of vP.o 1
     have c2:v8.cell? ⟨q,2,none⟩=some (.int .u32 (x2:Nat)):=cell_of vP.o 2
     have c3:v8.cell? ⟨q,3,none⟩=some (.int .u32 (x3:Nat)):=cell_of vP.o 3
     have c4:v8.cell? ⟨q,4,none⟩=some (.int .u32 (x4:Nat)):=cell_of vP.o 4
     have c5:v8.cell? ⟨q,5,none⟩=some (.int .u32 (x5:Nat)):=cell_of vP.o 5
     have c6:v8.cell? ⟨q,6,none⟩=some (.int .u32 (x6:Nat)):=cell_of vP.o 6
     have cb:v8.cell? ⟨w,6,none⟩=some (.slice yO j yP):=by rw [jv.o.rb.cell 6,bL.o];rfl
     have lf:k<v8.heap.size:=jv.o.rb.tL
     go_wp2_with (at_builtin;refine YV rfl (.tmp 69) (.tmp 71) 170 rfl (k+1) M9 (.slice yO j yP) j _ rfl (jv.o.own.alloc _) _ 1 (Q.Qr (x0:Nat) (x1:Nat) (x2:Nat) (x3:Nat) (x4:Nat) (x5:Nat) (x6:Nat)) rfl (VF v8 228 1 (Q.Qr (x0:Nat) (x1:Nat) (x2:Nat) (x3:Nat) (x4:Nat) (x5:Nat) (x6:Nat)) Zd) rfl (by intro u hu;simp at hu;rcases hu with rfl|rfl|rfl|rfl|rfl|rfl|rfl <;> rfl) Zo Zo Uq (fun v' w5 HO HG=>?_);have BU:=Zh ((jv.o.below (Z' v8 _)).grown HG.o);have f6:=BU.o.frozen 6;have c65:w5.cell? ⟨w,6,none⟩=some (.slice yO j yP):=(by rw [BU.o.cell 6,bL.o];rfl);obtain ⟨va,vc,pR,-,-⟩:=Row.Z6 HO.o;subst pR)
     go_roundw
     case rel=>exact ⟨j+1,_,Zo,Zn,by rw [VQ.o,HPN.o,O_,←HXSE.o];refine ⟨by have h:=BU.o.set 6 (.slice va (j+1) vc);rw [bL.o] at h;exact h,Vf (by have h:=HO.o;rw [←HBC.o] at h;rw [show [Oi b p].flatMap Xf=Xf (Oi b p) by simp];exact h) Zo _⟩⟩
     case measure=>simp [intOf];omega
    ·obtain rfl:j=m:=by omega
     have Z0:=Row.Z6 rf.o.own
     have y0:=rf.o.rb.Za
     have z0:=cell_of y0 0
     have z1:=cell_of y0 1
     have z2:=cell_of y0 2
     have z3:=cell_of y0 3
     have z4:=cell_of y0 4
     have z5:=cell_of y0 5
     have z6:=cell_of y0 6
     have z7:=cell_of y0 7
     have z8:=cell_of y0 8
     have z9:=cell_of y0 9
     simp only [SK,S6,SJ] at z0 z1 z2 z3 z4 z5 z6 z7 z8 z9
     have JO:=fun (R:World→Prop) (h:R wr)=>(by rw [setRow_self _ _ _ _ _ y0];exact h:R (wr.setRow w.heap.size (Jb (kd:Int) (get b 4 4:Nat) N2 N3 N4 N5 (.slice yO j yP) none 0 0 0 none 0 0)))
     have HS:=Zh JO
     have Vi:=Zh Z0
     have SG:=Zh rf.o.rb.Zj
     have HT:Hid (BL.take j=BL):=F5 (by rw [bH.o];exact Zw _)
     clear JO Z0 rf
     go_wp2_with (with_reducible refine ZU 173 (.tmp 2) (.tmp 75) rfl ?_;go_loud (refine ZW rfl 173 (.tmp 2) (.tmp 75) rfl rfl w.heap.size (Jb (kd:Int) (get b 4 4:Nat) N2 N3 N4 N5 (.slice yO j yP) none 0 0 0 none 0 0) rfl rfl 173 _ y0 ZB ZB ZB ?_;refine HS.o _ ?_))
     refine VJ (v:= .tuple (Qq (Jb (kd:Int) (get b 4 4:Nat) N2 N3 N4 N5 (.slice yO j yP) none 0 0 0 none 0 0) Y1 0)) (by simp [results,Tryz.results170,go_sem,z0,z1,z2,z3,z4,z5,z6,z7,z8,z9]) rfl ⟨⟨_,by rw [HX.o],?_⟩,SG.o⟩
     rw [HX.o]
     dsimp only
     rw [HRP2.o]
     refine ⟨.slice yO j yP,.slice none 0 0,.slice none 0 0,rfl,?_,Row.nil _ _,Row.nil _ _⟩
     have h:=Vi.o
     rw [HT.o] at h
     show Row _ _ _ BL.length _
     rw [bH.o]
     exact h
 exact AllReadyH.nil
theorem UT {P:Program} {fn:Func} {p u v:Tmp} {ty:TypeId} (h:fn.results=#[.cell p ty,.tmp u,.tmp v]) (tmps:Array Value) (w:World) (g:Nat) (t:TypeId) (cs:Array Value) (fr:Nat × Nat) (d:TypeDesc)
  (hp:tmps.getD p undef = .pointer (some ⟨g,0,none⟩)) (hg:w.heap[g]?=some (.cells cs t fr))
  (hu:P.underlying ty=some d) (hd:(match d with | .struct _ | .array _ _=>true|_=>false)=true) (hi:(P.info? ty).map (·.size)=some cs.size) :
  (results fn tmps).run P w = .ok (.tuple #[.agg cs,tmps.getD u undef,tmps.getD v undef]) w:=by
 exact Yt6
theorem FP (v:Value) (b:List UInt8) (w:World) (hv:X9 w v b) :
  Calls Tryz.prog 170 #[v] w fun e w'=>(∃ a,e = .returned (.tuple #[a,.int .i64 (X4 b).1.2,.int .i64 (X4 b).2])∧Td w' a (X4 b).1.1)∧Below w w w':=by
 by_cases h:(right b).2=0
 ·exact Dw v b w hv h
 ·exact FQ v b w hv h
theorem Lt {w:World} {v:Value} {i:RF} (h:Td w v i):∃ xa xc ya yc za zc,v = .agg (Jo i xa xc ya yc za zc)∧Uo w ⟨i,.slice xa i.blocks.length xc,.slice ya i.gone.length yc,.slice za i.XF.length zc⟩:=by
 obtain ⟨bv,gv,pv,h1,h2,h3,h4⟩:=h.ex
 obtain ⟨xa,xc,rfl⟩:=Row.form h2
 obtain ⟨ya,yc,rfl⟩:=Row.form h3
 obtain ⟨za,zc,rfl⟩:=Row.form h4
 exact ⟨xa,xc,ya,yc,za,zc,h1,⟨h2,h3,h4⟩⟩
theorem NF {w:World} {i:RF} {xa ya za:Option Addr} {xc yc zc:Nat} (h:Uo w ⟨i,.slice xa i.blocks.length xc,.slice ya i.gone.length yc,.slice za i.XF.length zc⟩):Td w (.agg (Jo i xa xc ya yc za zc)) i:=⟨_,_,_,rfl,h.b,h.g,h.p⟩
theorem Uo.setRow {w:World} {x:R5} (h:Uo w x) {g:Nat} {c:Array Value} {f:Nat × Nat} (hg:w.heap[g]?=some (.cells c 173 f)) (c':Array Value):Uo (w.setRow g c') x:=
 ⟨Row.setRow h.b hg Zd c',Row.setRow h.g hg Zd c',Row.setRow h.p hg Zd c'⟩
theorem EA (w:World):Uo w ⟨XX,.slice none 0 0,.slice none 0 0,.slice none 0 0⟩:=⟨Row.nil _ _,Row.nil _ _,Row.nil _ _⟩
theorem pX {b:List UInt8} (h:(Xx b).2=true) (h2:¬((Xx b).1=200∨(Xx b).1=201)):(Xx b).1=203∨(Xx b).1=205∨(Xx b).1=206:=by
 unfold Xx at h h2 ⊢
 split at h
 ·rename_i h1;rw [ZQ h1] at h2 ⊢;omega
 ·rename_i h1
  rw [Z4 h1] at h2 ⊢
  split at h
  ·rename_i h3;rw [ZQ h3] at h2 ⊢;omega
  ·cases h
theorem xg {b:List UInt8} {k:Nat} (hk:k=203∨k=205∨k=206) (h:(XN b k).2=true):(XN b k).1 % 4=0∧4≤(XN b k).1∧(k≠203→12≤(XN b k).1):=by
 unfold XN at h ⊢
 by_cases h1:k=203
 ·dsimp only at h ⊢
  rw [ZQ h1] at h ⊢
  exact ⟨by show (get b 2 2+1)*4 % 4=0;omega,by show 4≤(get b 2 2+1)*4;omega,fun h=>absurd h1 h⟩
 ·dsimp only at h ⊢
  rw [Z4 h1] at h ⊢
  by_cases h2:k=205
  ·rw [ZQ h2] at h ⊢
   have h:=(TU _ _).mp h
   have h3:=of_decide_eq_true h.1
   exact ⟨by show (get b 2 2+1)*4 % 4=0;omega,by show 4≤(get b 2 2+1)*4;omega,fun _=>by show 12≤(get b 2 2+1)*4;omega⟩
  ·rw [Z4 h2] at h ⊢
   have h3:=of_decide_eq_true h
   exact ⟨by show (get b 2 2+1)*4 % 4=0;omega,by show 4≤(get b 2 2+1)*4;omega,fun _=>by show 12≤(get b 2 2+1)*4;omega⟩
theorem tT (v:Value) (b:List UInt8) (k:Nat) (w:World) (hv:X9 w v b) (hk:k=203∨k=205∨k=206) (h4:b.length % 4=0) (hb:b.length≤1000) (OE:4≤b.length) (Fw:k≠203→12≤b.length) :
  Calls Tryz.prog 172 #[v,.int .i64 (k:Int)] w fun e w'=>(∃ a,e = .returned a∧Td w' a (parts b k))∧Below w w w':=by
 by_cases h:k=203
 ·subst h;exact tU v b w hv h4 hb OE
 ·exact AX v b k w hv h4 hb (Fw h) h Zo
theorem pZ (v:Value) (b:List UInt8) (w:World) (hv:X9 w v b) (hb:b.length≤512) :
  Calls Tryz.prog 151 #[v] w fun e w'=>(∃ a,e = .returned (.tuple #[a,.int .i64 ((Y7 b).1.2:Nat),.int .i64 (Y7 b).2])∧Td w' a (Y7 b).1.1)∧Below w w w':=by
 have HX:Hid (Y7 b=if b.length<4 then ((XX,0),2) else if at8 b 0 / 32≠4 then ((XX,0),1) else if (Xx b).2=false then ((XX,0),4) else if (Xx b).1=200∨(Xx b).1=201 then X4 b else if (XN b (Xx b).1).2=false then ((XX,0),1) else if b.length<(XN b (Xx b).1).1 then ((XX,0),2) else ((parts (b.take (XN b (Xx b).1).1) (Xx b).1,(XN b (Xx b).1).1),0)):=rfl
 have HV:Hid (∀ w',Below w w w'→X9 w' v b):=fun w' h=>hv.below h
 have QV:=Z7 w (.cells YY 173)
 have VQ:=Zh (Z' w (.cells YY 173))
 have UL:Hid (∀ w2 n er,w2.heap[w.heap.size]?=some (.cells YY 173 (0,0))→Below w w w2→Y7 b=((XX,n),er)→(∃ a,Ending.returned (.tuple (Qq YY (n:Nat) er)) = .returned (.tuple #[a,.int .i64 ((Y7 b).1.2:Nat),.int .i64 (Y7 b).2])∧Td (w2.setRow w.heap.size YY) a (Y7 b).1.1)∧Below w w (w2.setRow w.heap.size YY)):=fun w2 n er h1 h2 h3=>by
  rw [h3]
  exact ⟨⟨_,rfl,NF ((EA w2).setRow h1 _)⟩,Z3 h2 (Zw _) _⟩
 obtain ⟨va,c,rfl,Sg,-⟩:=id hv
 have W9:=fun h=>R7 hv h
 clear hv
 have ah:=Zh Sg
 clear Sg
 generalize Y7 b=X at *
 by_cases h1:b.length<4
 ·rw [ZQ h1] at HX
  clear HV W9
  go_enter Tryz.func151,Tryz.ntmps151
  go_wp2_with (first|(with_reducible refine ZU 173 (.tmp 2) (.tmp 12) rfl ?_;refine ZW rfl 173 (.tmp 2) (.tmp 12) rfl rfl w.heap.size YY rfl rfl 173 YY QV ZB ZB ZB ?_))
  refine VJ (v:= .tuple (Qq YY 0 2)) ?_ rfl ?_
  ·exact Yx96
  exact UL.o _ 0 2 QV VQ.o HX.o
 obtain ⟨g,off,cap,e1,_,_,hc⟩:=W9 Zo
 cases e1
 have d0:w.cell? ⟨g,off,none⟩=some (.int .u8 (at8 b 0:Int)):=hc 0 Zo
 have l1:decide ((b.length:Int)<4)=false:=WB Zo
 have Bz:g<w.heap.size:=World.block_lt_of_cell? w ⟨g,off,none⟩ d0
 rw [Z4 h1] at HX
 clear hc W9
 by_cases h2:at8 b 0 / 32≠4
 ·have q:(((at8 b 0:Nat):Int) / 32 != 4)=true:=by rw [R6];omega
  rw [ZQ h2] at HX
  clear h2
  go_enter Tryz.func151,Tryz.ntmps151
  go_wp2_with (first|(with_reducible refine ZU 173 (.tmp 2) (.tmp 19) rfl ?_;refine ZW rfl 173 (.tmp 2) (.tmp 19) rfl rfl w.heap.size YY rfl rfl 173 YY QV ZB ZB ZB ?_))
  refine VJ (v:= .tuple (Qq YY 0 1)) ?_ rfl ?_
  ·exact Yx96
  exact UL.o _ 0 1 QV VQ.o HX.o
 have q2:(((at8 b 0:Nat):Int) / 32 != 4)=false:=by rw [bne_eq_false_iff_eq];omega
 rw [Z4 h2] at HX
 have CK:=Zh (tF _ b (w.alloc (.cells YY 173)) (HV.o _ VQ.o) Zo)
 have HKO:=Zh (pX (b:=b))
 clear h2
 generalize Xx b=K at *
 obtain ⟨k,ok⟩:=K
 dsimp only at HX CK HKO
 cases ok with
 | false=>
  rw [ZQ rfl] at HX
  go_enter Tryz.func151,Tryz.ntmps151
  go_wp2_with (first|(go_at_call 169;refine CK.o.mono ?_;rintro e w2 ⟨rfl,Y0⟩;have Sr:=(Y0.block w.heap.size (ZV QV)).trans QV;have X6:=Zh (VQ.o.trans (Y0.mono VQ.o.size));clear Y0)|(with_reducible refine ZU 173 (.tmp 2) (.tmp 27) rfl ?_;refine ZW rfl 173 (.tmp 2) (.tmp 27) rfl rfl w.heap.size YY rfl rfl 173 YY Sr ZB ZB ZB ?_))
  refine VJ (v:= .tuple (Qq YY 0 4)) ?_ rfl ?_
  ·exact cH
  exact UL.o _ 0 4 Sr X6.o HX.o
 | true=>
  rw [Z4 Zi] at HX
  by_cases hk:k=200∨k=201
  ·rw [ZQ hk] at HX
   have kb:((k:Int) == 200)=true∨(((k:Int) == 200)=false∧((k:Int) == 201)=true):=by
    rcases hk with h|h
    ·left;rw [beq_iff_eq];omega
    ·right;exact ⟨by rw [WQ];omega,by rw [beq_iff_eq];omega⟩
   clear hk HKO
   rcases kb with kb|⟨kb,kb2⟩
   ·exact Yx19
   ·exact Yx19
  ·rw [Z4 hk] at HX
   have hk3:=HKO.o rfl hk
   have kb:((k:Int) == 200)=false:=by rw [WQ];omega
   have kb2:((k:Int) == 201)=false:=by rw [WQ];omega
   have CL:Hid (∀ w',Below w w w'→Calls Tryz.prog 171 #[(.slice (some ⟨g,off,none⟩) b.length c),.int .i64 (k:Int)] w' fun e w''=>e = .returned (.tuple (Q8 ((XN b k).1:Nat) (XN b k).2))∧w'=w''):=fun w' h=>Av _ b k w' (HV.o w' h) Zo
   have HLO:=Zh (xg (b:=b) hk3)
   clear hk HKO
   generalize XN b k=Y at *
   obtain ⟨n,ok⟩:=Y
   dsimp only at HX CL HLO
   cases ok with
   | false=>
    rw [ZQ rfl] at HX
    go_enter Tryz.func151,Tryz.ntmps151
    go_wp2_with (first|(go_at_call 169;refine CK.o.mono ?_;rintro e w2 ⟨rfl,Y0⟩;have Sr:=(Y0.block w.heap.size (ZV QV)).trans QV;have X6:=Zh (VQ.o.trans (Y0.mono VQ.o.size));clear Y0)|(go_at_call 171;refine (CL.o _ X6.o).mono ?_;rintro e w3 ⟨rfl,rfl⟩)|(with_reducible refine ZU 173 (.tmp 2) (.tmp 48) rfl ?_;refine ZW rfl 173 (.tmp 2) (.tmp 48) rfl rfl w.heap.size YY rfl rfl 173 YY Sr ZB ZB ZB ?_))
    refine VJ (v:= .tuple (Qq YY 0 1)) ?_ rfl ?_
    ·exact cH
    exact UL.o _ 0 1 Sr X6.o HX.o
   | true=>
    rw [Z4 Zi] at HX
    obtain ⟨n4,n5,n6⟩:=HLO.o rfl
    by_cases rB:b.length<n
    ·rw [ZQ rB] at HX
     go_enter Tryz.func151,Tryz.ntmps151
     go_wp2_with (first|(go_at_call 169;refine CK.o.mono ?_;rintro e w2 ⟨rfl,Y0⟩;have Sr:=(Y0.block w.heap.size (ZV QV)).trans QV;have X6:=Zh (VQ.o.trans (Y0.mono VQ.o.size));clear Y0)|(go_at_call 171;refine (CL.o _ X6.o).mono ?_;rintro e w3 ⟨rfl,rfl⟩)|(with_reducible refine ZU 173 (.tmp 2) (.tmp 54) rfl ?_;refine ZW rfl 173 (.tmp 2) (.tmp 54) rfl rfl w.heap.size YY rfl rfl 173 YY Sr ZB ZB ZB ?_))
     refine VJ (v:= .tuple (Qq YY 0 2)) ?_ rfl ?_
     ·exact cH
     exact UL.o _ 0 2 Sr X6.o HX.o
    ·rw [Z4 rB] at HX
     obtain ⟨a',Uz,-,Z0⟩:=Sy (P:=Tryz.prog) VL (some ⟨g,off,none⟩) b.length c n (by have:=ah.o;omega)
     have eP:(b.take n).length=n:=by rw [Tg];omega
     have CPA:Hid (∀ w',Below w w w'→Calls Tryz.prog 172 (Q6 a' n c (k:Int)) w' fun e w''=>(∃ a,e = .returned a∧Td w'' a (parts (b.take n) k))∧Below w' w' w''):=fun w' h=>by
      refine tT _ (b.take n) k w' ?_ hk3 (by rw [eP];exact n4) (by rw [eP];omega) (by rw [eP];exact n5) (by rw [eP];exact n6)
      have h5:=Z0 w' (RX b) Zo (by rw [Xl,Nat.mul_one]) (HV.o w' h)
      rw [Nat.mul_one,Pe] at h5
      show XU _ _ (b.take n).length _
      rw [eP]
      exact h5
     clear Z0 eP
     generalize parts (b.take n) k=i at *
     go_enter Tryz.func151,Tryz.ntmps151
     go_wp2_with (first|(go_at_call 169;refine CK.o.mono ?_;rintro e w2 ⟨rfl,Y0⟩;have Sr:=(Y0.block w.heap.size (ZV QV)).trans QV;have X6:=Zh (VQ.o.trans (Y0.mono VQ.o.size));clear Y0)|(go_at_call 171;refine (CL.o _ X6.o).mono ?_;rintro e w3 ⟨rfl,rfl⟩)|(go_at_call 172;refine (CPA.o _ X6.o).mono ?_;rintro e w4 ⟨⟨a,rfl,hit⟩,OE⟩;obtain ⟨xa,xc,ya,yc,za,zc,ha,ML⟩:=Lt hit;subst ha;have yL:=Zh ML;have vh:=(OE.block w.heap.size (ZV Sr)).trans Sr;have Uc:=Zh (X6.o.trans (OE.mono X6.o.size));clear hit ML OE)|(with_reducible refine ZU 173 (.tmp 2) (.tmp 59) rfl ?_;refine ZW rfl 173 (.tmp 2) (.tmp 59) rfl rfl w.heap.size (Jo i xa xc ya yc za zc) rfl rfl 173 YY vh ZB ZB ZB ?_))
     refine VJ (v:= .tuple (Qq (Jo i xa xc ya yc za zc) (n:Nat) 0)) ?_ rfl ?_
     ·exact UT (p:=2) (u:=3) (v:=4) Zr _ _ w.heap.size 173 (Jo i xa xc ya yc za zc) (0,0) _ Zr (setRow_heap _ _ _ _ _ _ vh) Tryz.underlying173 rfl ZB
     exact ⟨⟨_,by rw [HX.o],by rw [HX.o];exact NF (yL.o.setRow vh _)⟩,Z3 Uc.o (Zw _) _⟩
end Go.Proofs.By
