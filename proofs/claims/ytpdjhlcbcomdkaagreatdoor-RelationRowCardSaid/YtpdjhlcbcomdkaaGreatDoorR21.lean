/- Part of a proof. -/
import Derived.Test.YtpdjhlcbcomdkaaGreatDoorR20
set_option linter.unusedVariables false
set_option linter.unusedSimpArgs false
set_option maxRecDepth 100000
set_option maxHeartbeats 16000000
open Go Go.Q Go.Qr
namespace Go.Proofs.By
open Go.RowKit Go.Proofs.Heap
open Go.Proofs.Rm (ZN WH Inv Room of Vr Zv Vs)
theorem EH {T:ZN} {R:Room} (h:WH T R) (hI:Inv R) (p x:Int):((T.of x).2.2=true∧T.owner (T.of x).1=p)↔owned R p x=true:=by
 rw [h.of_eq hI];unfold owned;rw [UR,Pz];refine and_congr_right fun ho=>?_
 obtain ⟨m,hm,ht,_,he⟩:=Rm.P7 ho;have hn:=hI.YU m ht;rw [he];show T.owner (m:Int)=p↔(R.src ((m:Int)).toNat).own=p;rw [h.owner,ZR (Vs.2 ⟨Zo,Zo,by simpa using ht⟩)]
theorem tG {T:ZN} {R:Room} (h:WH T R) (p x:Int):((U9 x).2.2=true∧(U9 x).1=p∧0≤T.Y9 (U9 x).1 (U9 x).2.1)↔Uy R p x=true:=by
 unfold Uy;rw [UR,UR,Pz,and_assoc];refine and_congr_right fun _=>and_congr_right fun e=>?_
 rw [h.Y9,e]
open Go.Proofs.Rm (YB Va V8 opens)
def Ev.kd:Ev→Int | .none=>0 | .X5 _ _=>1 | .XX _=>2
def Ev.pk:Ev→KI | .none=>WT | .X5 p _=>p | .XX _=>WT
def Ev.ds:Ev→FJ | .none=>Tu | .X5 _ d=>d | .XX _=>Tu
def Ev.il:Ev→List Ro | .none=>[] | .X5 _ _=>[] | .XX l=>l
def wh (o:Rm.Op) (b:List UInt8):Ev:=if o.kind=1 then (XN b).1 else .none
def QE (L:List V7) (k:Nat):Ev:=match L[k]? with
 | some y=>wh y.x.o y.b
 | none=> .none
def I4 (L:List V7) (k:Nat):List Ev:=(List.range k).map (QE L)
theorem wj (L:List V7) (k:Nat):I4 L (k+1)=I4 L k++[QE L k]:=by unfold I4;rw [qE,NR];rfl
def PC (L:List V7):Nat→OJ
 | 0=>pF
 | k+1=>(PC L k).add (Z5 L k).XC.kind (Z5 L k).unknown
end Go.Proofs.By
namespace Go.Proofs.By
open Go.Proofs.Rm (YB)
def noOp:Rm.Op:=⟨0,0,0,0,[],[]⟩
def opAt (L:List V7) (k:Nat):Rm.Op:=match L[k]? with
 | none=>noOp
 | some y=>y.x.o
def lI (L:List V7) (k:Nat):Int:=if (Z5 L k).XC.kind≠2∨(opAt L k).kind=1 then 0 else (opAt L k).kind
structure VS where
 want:Int
 cur:Int
 ZQ:Bool
 ZE:Bool
deriving DecidableEq
def VS.quiet (s:VS):Bool:=s.ZQ || s.ZE
def QH (x:Zu) (at':Int):Bool:=decide (x.MR<at') && decide (at'<x.fin)
def Mj (s:VS) (k q:Int):VS:=if k=12 then {s with want:=q} else if k=10 then {s with ZQ:=true,cur:= -1} else if k=11 then {s with ZQ:=false} else s
def Wa (L:List V7) (x:Zu) (k:Nat):Bool:=QH x k && decide ((Z5 L k).XC.kind=1) && decide ((Z5 L k).XC.source=x.source)
def VY (s:VS) (d:FJ):Bool:= !s.quiet && d.key && d.start && decide (d.ZH=s.want) && !decide (d.ZH=s.cur)
def YN (s:VS) (k:Int):VS:=if k=4∨k=9 then {s with ZE:=false} else if k=8 then {s with ZE:=true,cur:= -1} else s
def DZ (L:List V7) (x:Zu) (s:VS) (k:Nat):VS:=
 if (opAt L k).source=x.source then
  (if (opAt L k).peer=x.peer∧QH x k=true then Mj (YN s (lI L k)) (lI L k) (opAt L k).ZH else YN s (lI L k))
 else s
def Ar (L:List V7) (x:Zu) (s:VS) (k:Nat):VS:=
 if Wa L x k && VY s (Z5 L k).WJ then {DZ L x s k with cur:=(Z5 L k).WJ.ZH} else DZ L x s k
def Yi (L:List V7) (x:Zu):Nat→VS
 | 0=>⟨(opAt L x.MR.toNat).ZH,-1,false,false⟩
 | k+1=>Ar L x (Yi L x k) k
def WQ (L:List V7) (x:Zu) (n:Nat):List VS:=(List.range n).map (Yi L x)
theorem Um (L:List V7) (x:Zu) (n:Nat):WQ L x (n+1)=WQ L x n++[Yi L x n]:=by unfold WQ;rw [qE,NR];rfl
theorem Ny (L:List V7) (x:Zu) (n:Nat):(WQ L x n).length=n:=by unfold WQ;rw [TB,List.length_range]
theorem Ra (L:List V7) (x:Zu) {n k:Nat} (h:k<n):(WQ L x n)[k]?=some (Yi L x k):=by unfold WQ;rw [List.getElem?_map,List.getElem?_range h];rfl
def there (x:Zu) (at':Int):Bool:=decide (x.MR<at') && decide (at'≤x.fin)
open Go.RowKit Go.Proofs.Heap
theorem kL {base:Nat} {e:TypeId} {size:Nat} {v:Value} {n:Nat} {xs:List Value} {w:World} (h:w.ownsRow base e size v n xs):∀ k,v.ownBlock=some k→k<w.heap.size:=by
 intro k hk;obtain ⟨_,h⟩:=h;rcases h with ⟨rfl,_⟩|⟨g,cap,cur,rfl,hg,hh,_⟩
 ·cases hk
 ·have hk:some g=some k:=hk;cases hk;exact uH hh
theorem Dg (v:Value) (b:List UInt8) (w:World) (hv:X6 w v b) (h0:(right b).2=0) :
  Calls Tryz.prog 170 #[v] w fun e w'=>(∃ a,e = .returned (.tuple #[a,.int .i64 (XZ b).1.2,.int .i64 (XZ b).2])∧S8 w' a (XZ b).1.1)∧Below w w w':=by
 have HX:Hid (XZ b=((report b,(right b).1),0)):=by show _=_;unfold XZ;rw [Z4 (by simp [h0])]
 have C:=fun w1 h=>EI v b w1 (hv.below (h:Below w w w1))
 have HC:=Zh C;have HV:Hid (∀ w',Below w w w'→X6 w' v b):=fun w' h=>hv.below h
 have hb4':=(G' h0).1;obtain ⟨g,off,c,rfl,R4,zZ,W8⟩:=RR hv Zo;clear C hv;obtain ⟨Oj,hk,h15,-,hlen⟩:=G' h0;generalize XZ b=X at *
 generalize right b=Y at *
 obtain ⟨Y1,Y2⟩:=Y;obtain rfl:Y2=0:=h0;go_enter Tryz.func170,Tryz.ntmps170;go_wp2_with fail
 refine (HC.o _ (Z' _ _)).mono ?_;rintro e w2 ⟨rfl,Y7⟩;clear HC;have y2:=Y7.block w.heap.size BJ;rw [Z8] at y2;have Sh:w.heap.size+1≤w2.heap.size:=by have h:=Y7.size;have h:(w.heap.push _).size≤w2.heap.size:=h;rw [OI] at h;exact h
 have Y2H:=Zh y2;clear y2;go_wp2_with fail
 have VJ:Below w w w2:=(Z' w _).trans (Y7.mono mQ);have aS:Hid (TN (w2.alloc (.cells (Q7 (some ⟨g,off,none⟩) b.length c 4) 264)).drew w2.heap.size (.slice (some ⟨g,off,none⟩) b.length c) 4):=Z8 _ _
 have HRB3:Hid (RB w (w2.alloc (.cells (Q7 (some ⟨g,off,none⟩) b.length c 4) 264)).drew w2.heap.size (.slice (some ⟨g,off,none⟩) b.length c) 4 Yz1):=
  ⟨(VJ.trans ((Z' w2 _).mono VJ.size)).drew,by show (w2.alloc _).heap[w.heap.size]?=_;rw [(Z' w2 _).block w.heap.size Zo];exact Y2H.o,aS.o,Zo⟩
 have Zz:Hid (∀ w',Below w w w'→w'.cell? ⟨g,off+1,none⟩=some (.int .u8 (at8 b 1:Int))∧Below w w w'):=fun w' h=>by
  obtain ⟨_,_,_,e,_,_,hc⟩:=RR (HV.o w' h) Zo;cases e;exact ⟨hc 1 Zo,h⟩
 have hbI:(1:Int)<(b.length:Int):=by omega
 have hbN:1<b.length:=by omega
 have SJ:=Xl b 1;have hg4:get b 4 4<4294967296:=U5 b 4 4 4 Zd;have HW:=Zh (J4 w2.heap.size _ b 4 _ aS.o (HV.o _ (VJ.trans ((Z' w2 _).mono VJ.size)).drew) Zo);have hzz:w.heap.size<w2.heap.size:=by omega
 clear Y7;have HK:=Zh hk;have Bu:=Zh hlen;have H15:=Zh h15;have rq:Hid (report b=⟨(at8 b 1:Int),get b 4 4,if at8 b 1=200 then (get b 8 8:Int) else 0,if at8 b 1=200 then (get b 16 4:Int) else 0,if at8 b 1=200 then (get b 20 4:Int) else 0,if at8 b 1=200 then (get b 24 4:Int) else 0,(List.range (at8 b 0 % 32)).map fun (i:Nat)=>N1 b ((if at8 b 1=200 then 28 else 8)+24*i),[],0,[]⟩):=rfl;clear hk hlen hb4' h15 R4 zZ;generalize at8 b 1=kd at *
 have hkw:IntKind.i64.wrap (kd:Int)=(kd:Int):=Tm _ Zo;refine SX ?_;refine wp_region_held_drew (S:=(fun w'=>w'.cell? ⟨g,off+1,none⟩=some (.int .u8 (kd:Int))∧Below w w w')) ZB ?_ (fun XU=>?_)
 ·(try dsimp only)
  exact Zz.o _ (VJ.trans ((Z' w2 _).mono VJ.size)).drew
 refine YA 0 (h:=YA 1 (h:=YA 2 (h:=YA 3 (h:=YA 4 (h:=?_)))));refine wpAnyH_ready (rs:=[5]) ZB Zi ?_;refine AllReadyH.cons (i:=5) rfl (fun K hK=>?_) ?_
 ·go_simp
  (refine HW.o.mono ?_;rintro e w4 ⟨rfl,he4,gJ⟩;have iN:=Zh (HRB3.o.move he4 gJ);have Oj:Below w w w4:=iN.o.Zg)
  go_wp2_with fail
  refine hK.out _ _ ?_ (fun VG=>?_)
  ·(try dsimp only)
   exact Zz.o _ Oj
  clear hK K;try simp only [Z_.pt]
  refine YA 6 (h:=?_);refine R7 7 (h:=fun K hK=>?_);refine Sq Zr 173 (.tmp 2) (.tmp 25) Zr Zr w.heap.size (Qe (kd:Int) (get b 4 4:Nat) 0 0 0 0 none 0 0 none 0 0 0 none 0 0) Zr Zr 173 _ iN.o.Y8 ZB ZB ZB ?_;have BA:=Zh (iN.o.row (Qe (kd:Int) (get b 4 4:Nat) 0 0 0 0 none 0 0 none 0 0 0 none 0 0));refine hK.out _ _ (Zz.o _ BA.o.Zg) (fun _=>?_);clear hK K;try simp only [Z_.pt]
  refine wpAnyH_done ZB ?_ _;refine RA ?_;have hbe:=BA.o.Zg;have z0:(w4.setRow w.heap.size (Qe (kd:Int) (get b 4 4:Nat) 0 0 0 0 none 0 0 none 0 0 0 none 0 0)).cell? ⟨w,0,none⟩=some (.int .i64 (kd:Int)):=BA.o.cell 0;have HRB:Hid (RB w (w4.setRow w.heap.size (Qe (kd:Int) (get b 4 4:Nat) 0 0 0 0 none 0 0 none 0 0 0 none 0 0)) w2.heap.size (.slice (some ⟨g,off,none⟩) b.length c) 8 (Qe (kd:Int) (get b 4 4:Nat) 0 0 0 0 none 0 0 none 0 0 0 none 0 0)):=BA.o;clear HRB3 iN BA HW aS Oj he4 gJ XU VG Zz hbI hbN Y2H VJ hkw;generalize w4.setRow w.heap.size (Qe (kd:Int) (get b 4 4:Nat) 0 0 0 0 none 0 0 none 0 0 0 none 0 0)=w5 at *
  clear Sh;clear w4;generalize w2.heap.size=k at *
  clear w2;obtain ⟨P0,Bx⟩:∃ P0:Nat,Hid (P0=if kd=200 then 28 else 8):=⟨_,rfl⟩;obtain ⟨N2,qw⟩:∃ x:Int,Hid (x=if kd=200 then (get b 8 8:Int) else 0):=⟨_,rfl⟩;obtain ⟨N3,yr⟩:∃ x:Int,Hid (x=if kd=200 then (get b 16 4:Int) else 0):=⟨_,rfl⟩;obtain ⟨N4,LN⟩:∃ x:Int,Hid (x=if kd=200 then (get b 20 4:Int) else 0):=⟨_,rfl⟩;obtain ⟨N5,LO⟩:∃ x:Int,Hid (x=if kd=200 then (get b 24 4:Int) else 0):=⟨_,rfl⟩;go_upto_if 28 with fail
  go_cut [] (fun wx=>RB w wx k (.slice (some ⟨g,off,none⟩) b.length c) P0 (Qe (kd:Int) (get b 4 4:Nat) N2 N3 N4 N5 none 0 0 none 0 0 0 none 0 0))
  case first=>
   by_cases Iz:kd=200
   ·have bk:((kd:Int) == 200)=true:=by rw [beq_iff_eq];omega
    have CG:Hid (Calls Tryz.prog 181 (Qk (some ⟨k,0,none⟩) 8) w5 fun e w'=>e = .returned (.int .u64 (get b 8 8:Nat))∧RB w w' k (.slice (some ⟨g,off,none⟩) b.length c) 16 (Qe (kd:Int) (get b 4 4:Nat) 0 0 0 0 none 0 0 none 0 0 0 none 0 0)∧Fr w5 (· = k) w5 w'):=HRB.o.get HV.o Zo 8 Zo;have hP:P0=28:=by rw [Bx.o,ZR Iz]
    have h2:N2=(get b 8 8:Int):=by rw [qw.o,ZR Iz]
    have h3:N3=(get b 16 4:Int):=by rw [yr.o,ZR Iz]
    have h4:N4=(get b 20 4:Int):=by rw [LN.o,ZR Iz]
    have h5:N5=(get b 24 4:Int):=by rw [LO.o,ZR Iz]
    subst hP h2 h3 h4 h5;clear Bx qw yr LN LO Iz;go_wp2_with fail
    refine CG.o.mono ?_;rintro e w6 ⟨rfl,hrb6,-⟩;have CW6:Hid (Calls Tryz.prog 180 #[.pointer (some ⟨k,0,none⟩)] w6 fun e w'=>e = .returned (.int .u32 (get b 16 4:Nat))∧RB w w' k (.slice (some ⟨g,off,none⟩) b.length c) 20 (Qe (kd:Int) (get b 4 4:Nat) 0 0 0 0 none 0 0 none 0 0 0 none 0 0)∧Fr w6 (· = k) w6 w'):=hrb6.word HV.o Zo;clear hrb6;go_wp2_with fail
    refine CW6.o.mono ?_;rintro e w7 ⟨rfl,hrb7,-⟩;have CW7:Hid (Calls Tryz.prog 180 #[.pointer (some ⟨k,0,none⟩)] w7 fun e w'=>e = .returned (.int .u32 (get b 20 4:Nat))∧RB w w' k (.slice (some ⟨g,off,none⟩) b.length c) 24 (Qe (kd:Int) (get b 4 4:Nat) 0 0 0 0 none 0 0 none 0 0 0 none 0 0)∧Fr w7 (· = k) w7 w'):=hrb7.word HV.o Zo;clear hrb7;go_wp2_with fail
    refine CW7.o.mono ?_;rintro e w8 ⟨rfl,hrb8,-⟩;have CW8:Hid (Calls Tryz.prog 180 #[.pointer (some ⟨k,0,none⟩)] w8 fun e w'=>e = .returned (.int .u32 (get b 24 4:Nat))∧RB w w' k (.slice (some ⟨g,off,none⟩) b.length c) 28 (Qe (kd:Int) (get b 4 4:Nat) 0 0 0 0 none 0 0 none 0 0 0 none 0 0)∧Fr w8 (· = k) w8 w'):=hrb8.word HV.o Zo;clear hrb8;go_wp2_with fail
    refine CW8.o.mono ?_;rintro e w9 ⟨rfl,Fi,-⟩;have z2:w9.cell? ⟨w,2,none⟩=some (.int .u64 0):=Fi.cell 2;have z3:w9.cell? ⟨w,3,none⟩=some (.int .u32 0):=Fi.cell 3;have z4:w9.cell? ⟨w,4,none⟩=some (.int .u32 0):=Fi.cell 4;have z5:w9.cell? ⟨w,5,none⟩=some (.int .u32 0):=Fi.cell 5;have f2:=Fi.frozen 2;have f3:=Fi.frozen 3;have f4:=Fi.frozen 4;have f5:=Fi.frozen 5;have HF:=Zh ((((Fi.set 2 (.int .u64 (get b 8 8:Nat))).set 3 (.int .u32 (get b 16 4:Nat))).set 4 (.int .u32 (get b 20 4:Nat))).set 5 (.int .u32 (get b 24 4:Nat)));clear Fi;go_wp2_with fail
    go_meet;exact HF.o
   ·have bk:((kd:Int) == 200)=false:=by rw [WR];omega
    have hP:P0=8:=by rw [Bx.o,Z4 Iz]
    have h2:N2=0:=by rw [qw.o,Z4 Iz]
    have h3:N3=0:=by rw [yr.o,Z4 Iz]
    have h4:N4=0:=by rw [LN.o,Z4 Iz]
    have h5:N5=0:=by rw [LO.o,Z4 Iz]
    subst hP h2 h3 h4 h5;clear Bx qw yr LN LO Iz;go_wp2_with fail
    go_meet;exact HRB.o
  case rest=>
   obtain ⟨W5,rfl⟩:∃ W:World,W=wc:=⟨_,rfl⟩;obtain ⟨_,_,_,e1,_,_,j0⟩:=RR (HV.o _ hcut.Zg) Zo;cases e1;have d0:W5.cell? ⟨g,off,none⟩=some (.int .u8 (at8 b 0:Int)):=j0 0 Zo;have ha:=BP (at8 b 0) (Xl b 0);have hm15:=H15.o;have hP28:P0≤28:=by rw [Bx.o];split <;> omega
   have hRP:report b=⟨(kd:Int),get b 4 4,N2,N3,N4,N5,(List.range (at8 b 0 % 32)).map fun (i:Nat)=>N1 b (P0+24*i),[],0,[]⟩:=by rw [rq.o,Bx.o,qw.o,yr.o,LN.o,LO.o]
   have HRP2:=Zh hRP;have HCUT:=Zh hcut;clear j0 hcut rq Bx qw yr LN LO HRB z0 hbe hRP HK H15 Bu W8;generalize at8 b 0 % 32=m at *
   obtain ⟨BL,hBL⟩:∃ BL:List qQ,BL=(List.range m).map fun (i:Nat)=>N1 b (P0+24*i):=⟨_,rfl⟩
   have aL:Hid (BL.length=m):=by show _=_;rw [hBL];simp
   have HBLs:Hid (∀ j,j<m→BL.take (j+1)=BL.take j++[N1 b (P0+24*j)]):=fun j hj=>by
    rw [List.take_succ_eq_append_getElem (by rw [aL.o];exact hj)];simp [hBL]
   rw [←hBL] at HRP2;clear hBL;have HR0:Hid (RL w W5 k (.slice (some ⟨g,off,none⟩) b.length c) P0 (Qe (kd:Int) (get b 4 4:Nat) N2 N3 N4 N5 none 0 0 none 0 0 0 none 0 0) (.slice none 0 0) 0 []):=⟨HCUT.o,TY _ _ _ _⟩;clear HCUT;go_upto_region 9 with fail
   go_loopw [45] (fun i w'=>∃ (j:Nat) (bv:Value),j≤m∧i = .int .u8 (j:Int)∧RL w w' k (.slice (some ⟨g,off,none⟩) b.length c) (P0+24*j) (Jc (kd:Int) (get b 4 4:Nat) N2 N3 N4 N5 bv none 0 0 0 none 0 0) bv j ((BL.take j).flatMap Xb)) (fun i _=>m-(intOf i).toNat)
   case atStart=>exact ⟨0,_,Tk _,rfl,HR0.o⟩
   case round=>
    clear HR0;obtain ⟨j,bv0,hj,rfl,hrl⟩:=hrel;obtain ⟨yw,yx,hbv0,-,-⟩:=Row.Z6 hrl.own;subst hbv0;have qz:=Zh hrl;clear hrl;by_cases zX:j<m
    ·have V6:=Zh (HBLs.o j zX);obtain ⟨p,hp⟩:∃ p,p=P0+24*j:=⟨_,rfl⟩;have Ej:p≤1000:=by omega
     rw [←hp] at V6 qz;obtain ⟨cs,Tn⟩:∃ cs:List Value,cs=(Jc (kd:Int) (get b 4 4:Nat) N2 N3 N4 N5 (.slice yw j yx) none 0 0 0 none 0 0):=⟨_,rfl⟩;obtain ⟨xs,Ia⟩:∃ xs:List Value,xs=(BL.take j).flatMap Xb:=⟨_,rfl⟩;rw [←Tn,←Ia] at qz;have aP:=Zh Tn;have HXSE:=Zh Ia;clear Tn Ia;have HPN:Hid (P0+24*(j+1)=p+24):=by show _=_;rw [hp];omega
     clear hp;have HBC:Hid (Xb (N1 b p)=(Qt (get b (p:Nat) 4:Nat) (get b (p+4:Nat) 1:Nat) (get b (p+5:Nat) 3:Nat) (get b (p+8:Nat) 4:Nat) (get b (p+12:Nat) 4:Nat) (get b (p+16:Nat) 4:Nat) (get b (p+20:Nat) 4:Nat))):=rfl;have CS:=fun q (hq:q≤2000) w1 bv xs j cs (h:RL w w1 k (.slice (some ⟨g,off,none⟩) b.length c) q cs bv j xs)=>h.word (b:=b) HV.o Zo
     have CG:=fun q (hq:q≤2000) w1 bv xs j cs (h:RL w w1 k (.slice (some ⟨g,off,none⟩) b.length c) q cs bv j xs) r hr=>h.get (b:=b) HV.o Zo r hr
     have kV:=Zh CS;have qo:=Zh CG;clear CS CG;have x0b:get b (p:Nat) 4<4294967296:=U5 b _ 4 4 Zd;have x1b:get b (p+4:Nat) 1<256:=U5 b _ 1 1 Zd;have x2b:get b (p+5:Nat) 3<4294967296:=OS (U5 b _ 3 3 Zd) Zd;generalize h0:get b (p:Nat) 4=x0 at *
     generalize h1:get b (p+4:Nat) 1=x1 at *
     generalize h2:get b (p+5:Nat) 3=x2 at *
     generalize h3:get b (p+8:Nat) 4=x3 at *
     generalize h4:get b (p+12:Nat) 4=x4 at *
     generalize h5:get b (p+16:Nat) 4=x5 at *
     generalize h6:get b (p+20:Nat) 4=x6 at *
     have HG0:=Zh h0;have OH:=Zh h1;have KF:=Zh h2;have HG3:=Zh h3;have HG4:=Zh h4;have iD:=Zh h5;have yP:=Zh h6;clear h0 h1 h2 h3 h4 h5 h6;have C1:Hid (Calls Tryz.prog 180 #[.pointer (some ⟨k,0,none⟩)] wr fun e w'=>e = .returned (.int .u32 (x0:Nat))∧RL w w' k (.slice (some ⟨g,off,none⟩) b.length c) (p+4) cs (.slice yw j yx) j xs∧Fr wr (· = k) wr w'):=by have:=kV.o p Zo _ _ _ _ _ qz.o;rw [HG0.o] at this;exact this
     go_wp2_with fail
     refine C1.o.mono ?_;rintro e v1 ⟨rfl,dH,-⟩;have KG:=Zh dH;clear dH C1;have C2:Hid (Calls Tryz.prog 181 (Qk (some ⟨k,0,none⟩) 1) v1 fun e w'=>e = .returned (.int .u64 (x1:Nat))∧RL w w' k (.slice (some ⟨g,off,none⟩) b.length c) (p+5) cs (.slice yw j yx) j xs∧Fr v1 (· = k) v1 w'):=by have:=qo.o (p+4) Zo _ _ _ _ _ KG.o 1 Zo;rw [←OH.o];exact this
     go_wp2_with fail
     refine C2.o.mono ?_;rintro e v2 ⟨rfl,M0,-⟩;have ue:=Zh M0;clear M0 C2;have C3:Hid (Calls Tryz.prog 181 (Qk (some ⟨k,0,none⟩) 3) v2 fun e w'=>e = .returned (.int .u64 (x2:Nat))∧RL w w' k (.slice (some ⟨g,off,none⟩) b.length c) (p+8) cs (.slice yw j yx) j xs∧Fr v2 (· = k) v2 w'):=by have:=qo.o (p+5) Zo _ _ _ _ _ ue.o 3 Zo;rw [←KF.o];exact this
     go_wp2_with fail
     refine C3.o.mono ?_;rintro e v3 ⟨rfl,Fh,-⟩;have yU:=Zh Fh;clear Fh C3;have HRA:=Zh (yU.o.below (Z' v3 (.cells (Qt (x0:Nat) (x1:Nat) (x2:Nat) 0 0 0 0) 228)));have DA:Hid ((v3.alloc (.cells (Qt (x0:Nat) (x1:Nat) (x2:Nat) 0 0 0 0) 228)).heap[v3.heap.size]?=some (.cells (Qt (x0:Nat) (x1:Nat) (x2:Nat) 0 0 0 0) 228)):=Z8 _ _;have gK:k<v3.heap.size:=yU.o.rb.sS;have hwk:w.heap.size<k:=yU.o.rb.lt
     have HOB:Hid (∀ i,(Value.slice yw j yx).ownBlock=some i→i≠v3.heap.size):=fun i hi e=>by
      have:=kL yU.o.own i hi;omega
     have C4:Hid (Calls Tryz.prog 180 #[.pointer (some ⟨k,0,none⟩)] (v3.alloc (.cells (Qt (x0:Nat) (x1:Nat) (x2:Nat) 0 0 0 0) 228)) fun e w'=>e = .returned (.int .u32 (x3:Nat))∧RL w w' k (.slice (some ⟨g,off,none⟩) b.length c) (p+12) cs (.slice yw j yx) j xs∧Fr (v3.alloc (.cells (Qt (x0:Nat) (x1:Nat) (x2:Nat) 0 0 0 0) 228)).heap.size (· = k) (v3.alloc (.cells (Qt (x0:Nat) (x1:Nat) (x2:Nat) 0 0 0 0) 228)) w'):=by have:=kV.o (p+8) Zo _ _ _ _ _ HRA.o;rw [←HG3.o];exact this
     go_wp2_with fail
     refine C4.o.mono ?_;rintro e v4 ⟨rfl,z_,gJ⟩;have HK4:=Zh (Cb gJ DA.o gK);have HR4:=Zh z_;clear z_ gJ C4 DA HRA yU ue KG;generalize v3.heap.size=q at *
     clear v3;have C5:Hid (Calls Tryz.prog 180 #[.pointer (some ⟨k,0,none⟩)] v4 fun e w'=>e = .returned (.int .u32 (x4:Nat))∧RL w w' k (.slice (some ⟨g,off,none⟩) b.length c) (p+16) cs (.slice yw j yx) j xs∧Fr v4 (· = k) v4 w'):=by have:=kV.o (p+12) Zo _ _ _ _ _ HR4.o;rw [←HG4.o];exact this
     go_wp2_with fail
     refine C5.o.mono ?_;rintro e v5 ⟨rfl,hr5,sy⟩;have HK5:=Zh (Cb sy HK4.o gK);have HR5:=Zh hr5;clear hr5 sy C5 HR4 HK4;have C6:Hid (Calls Tryz.prog 180 #[.pointer (some ⟨k,0,none⟩)] v5 fun e w'=>e = .returned (.int .u32 (x5:Nat))∧RL w w' k (.slice (some ⟨g,off,none⟩) b.length c) (p+20) cs (.slice yw j yx) j xs∧Fr v5 (· = k) v5 w'):=by have:=kV.o (p+16) Zo _ _ _ _ _ HR5.o;rw [←iD.o];exact this
     go_wp2_with fail
     refine C6.o.mono ?_;rintro e v6 ⟨rfl,hr6,hf6⟩;have HK6:=Zh (Cb hf6 HK5.o gK);have yV:=Zh hr6;clear hr6 hf6 C6 HR5 HK5;have C7:Hid (Calls Tryz.prog 180 #[.pointer (some ⟨k,0,none⟩)] v6 fun e w'=>e = .returned (.int .u32 (x6:Nat))∧RL w w' k (.slice (some ⟨g,off,none⟩) b.length c) (p+24) cs (.slice yw j yx) j xs∧Fr v6 (· = k) v6 w'):=by have:=kV.o (p+20) Zo _ _ _ _ _ yV.o;rw [←yP.o];exact this
     go_wp2_with fail
     refine C7.o.mono ?_;rintro e v7 ⟨rfl,ku,j5⟩;have GC:=Cb j5 HK6.o gK;have u3:v7.cell? ⟨q,3,none⟩=some (.int .u32 0):=cell_of GC 3;have u4:v7.cell? ⟨q,4,none⟩=some (.int .u32 0):=cell_of GC 4;have u5:v7.cell? ⟨q,5,none⟩=some (.int .u32 0):=cell_of GC 5;have u6:v7.cell? ⟨q,6,none⟩=some (.int .u32 0):=cell_of GC 6;have f3:=ZO GC 3;have f4:=ZO GC 4;have f5:=ZO GC 5;have f6:=ZO GC 6;have ko:=Hz GC 3 (.int .u32 (x3:Nat));have UF:=Hz ko 4 (.int .u32 (x4:Nat));have ou:=Hz UF 5 (.int .u32 (x5:Nat));have hk11:=Hz ou 6 (.int .u32 (x6:Nat));have iM:=Zh ((((ku.other GC (o:=3) gK HOB.o (.int .u32 (x3:Nat))).other ko (o:=4) gK HOB.o (.int .u32 (x4:Nat))).other UF (o:=5) gK HOB.o (.int .u32 (x5:Nat))).other ou (o:=6) gK HOB.o (.int .u32 (x6:Nat)));have vw:=Zh hk11;clear GC ko UF ou hk11 ku j5 C7 yV HK6;go_upto_region 12 with fail
     clear u3 u4 u5 u6 f3 f4 f5 f6;generalize (((v7.setCell ⟨q,3,none⟩ (.int .u32 (x3:Nat))).setCell ⟨q,4,none⟩ (.int .u32 (x4:Nat))).setCell ⟨q,5,none⟩ (.int .u32 (x5:Nat))).setCell ⟨q,6,none⟩ (.int .u32 (x6:Nat))=v8 at *
     clear v7;have c0:v8.cell? ⟨q,0,none⟩=some (.int .u32 (x0:Nat)):=cell_of vw.o 0;have c1:v8.cell? ⟨q,1,none⟩=some (.int .u8 (x1:Nat)):=cell_of vw.o 1;have c2:v8.cell? ⟨q,2,none⟩=some (.int .u32 (x2:Nat)):=cell_of vw.o 2;have c3:v8.cell? ⟨q,3,none⟩=some (.int .u32 (x3:Nat)):=cell_of vw.o 3;have c4:v8.cell? ⟨q,4,none⟩=some (.int .u32 (x4:Nat)):=cell_of vw.o 4;have c5:v8.cell? ⟨q,5,none⟩=some (.int .u32 (x5:Nat)):=cell_of vw.o 5;have c6:v8.cell? ⟨q,6,none⟩=some (.int .u32 (x6:Nat)):=cell_of vw.o 6;have cb:v8.cell? ⟨w,6,none⟩=some (.slice yw j yx):=by rw [iM.o.rb.cell 6,aP.o];rfl
     have ko:k<v8.heap.size:=iM.o.rb.sS;go_wp2_with (at_builtin;refine YV rfl (.tmp 69) (.tmp 71) 170 rfl (k+1) MU (.slice yw j yx) j _ rfl (iM.o.own.alloc _) _ 1 (Qt (x0:Nat) (x1:Nat) (x2:Nat) (x3:Nat) (x4:Nat) (x5:Nat) (x6:Nat)) rfl (Vz v8 228 1 (Qt (x0:Nat) (x1:Nat) (x2:Nat) (x3:Nat) (x4:Nat) (x5:Nat) (x6:Nat)) Zd) rfl (by intro u hu;simp at hu;rcases hu with rfl|rfl|rfl|rfl|rfl|rfl|rfl <;> rfl) Zo Zo Ug (fun v' w5 HO HG=>?_);have BA:=Zh ((iM.o.below (Z' v8 _)).grown HG.o);have f6:=BA.o.frozen 6;have c65:w5.cell? ⟨w,6,none⟩=some (.slice yw j yx):=(by rw [BA.o.cell 6,aP.o];rfl);obtain ⟨va,vc,o5,-,-⟩:=Row.Z6 HO.o;subst o5)
     go_roundw
     case rel=>exact ⟨j+1,_,Zo,Zn,by rw [V6.o,HPN.o,OQ,←HXSE.o];refine ⟨by have h:=BA.o.set 6 (.slice va (j+1) vc);rw [aP.o] at h;exact h,U8 (by have h:=HO.o;rw [←HBC.o] at h;rw [show [N1 b p].flatMap Xb=Xb (N1 b p) by simp];exact h) Zo _⟩⟩
     case measure=>simp [intOf];omega
    ·obtain rfl:j=m:=by omega
     have ZY:=Row.Z6 qz.o.own;have y0:=qz.o.rb.Y8;have z0:=cell_of y0 0;have z1:=cell_of y0 1;have z2:=cell_of y0 2;have z3:=cell_of y0 3;have z4:=cell_of y0 4;have z5:=cell_of y0 5;have z6:=cell_of y0 6;have z7:=cell_of y0 7;have z8:=cell_of y0 8;have z9:=cell_of y0 9;simp only [SE,SD,R8] at z0 z1 z2 z3 z4 z5 z6 z7 z8 z9;have JD:=fun (R:World→Prop) (h:R wr)=>(by rw [setRow_self _ _ _ _ _ y0];exact h:R (wr.setRow w.heap.size (Jc (kd:Int) (get b 4 4:Nat) N2 N3 N4 N5 (.slice yw j yx) none 0 0 0 none 0 0)))
     have HS:=Zh JD;have U':=Zh ZY;have Sy:=Zh qz.o.rb.Zg;have HT:Hid (BL.take j=BL):=FL (by rw [aL.o];exact Zw _);clear JD ZY qz;go_wp2_with (with_reducible refine ZU 173 (.tmp 2) (.tmp 75) rfl ?_;go_loud (refine ZV rfl 173 (.tmp 2) (.tmp 75) rfl rfl w.heap.size (Jc (kd:Int) (get b 4 4:Nat) N2 N3 N4 N5 (.slice yw j yx) none 0 0 0 none 0 0) rfl rfl 173 _ y0 ZB ZB ZB ?_;refine HS.o _ ?_))
     refine VD (v:= .tuple (Qs (Jc (kd:Int) (get b 4 4:Nat) N2 N3 N4 N5 (.slice yw j yx) none 0 0 0 none 0 0) Y1 0)) (by simp [results,Tryz.results170,go_sem,z0,z1,z2,z3,z4,z5,z6,z7,z8,z9]) rfl ⟨⟨_,by rw [HX.o],?_⟩,Sy.o⟩;rw [HX.o];dsimp only;rw [HRP2.o];refine ⟨.slice yw j yx,.slice none 0 0,.slice none 0 0,rfl,?_,Row.nil _ _,Row.nil _ _⟩;have h:=U'.o;rw [HT.o] at h;show Row _ _ _ BL.length _;rw [aL.o];exact h
 exact AllReadyH.nil
end Go.Proofs.By
namespace Go.Proofs.By
open Go.RowKit Go.Proofs.Heap
theorem UK {P:Program} {fn:Func} {p u v:Tmp} {ty:TypeId} (h:fn.results=#[.cell p ty,.tmp u,.tmp v]) (tmps:Array Value) (w:World) (g:Nat) (t:TypeId) (cs:Array Value) (fr:Nat × Nat) (d:TypeDesc)
  (hp:tmps.getD p undef = .pointer (some ⟨g,0,none⟩)) (hg:w.heap[g]?=some (.cells cs t fr))
  (hu:P.underlying ty=some d) (hd:(match d with | .struct _ | .array _ _=>true|_=>false)=true) (hi:(P.info? ty).map (·.size)=some cs.size) :
  (results fn tmps).run P w = .ok (.tuple #[.agg cs,tmps.getD u undef,tmps.getD v undef]) w:=by
 exact Yt6
theorem Fy (v:Value) (b:List UInt8) (w:World) (hv:X6 w v b) :
  Calls Tryz.prog 170 #[v] w fun e w'=>(∃ a,e = .returned (.tuple #[a,.int .i64 (XZ b).1.2,.int .i64 (XZ b).2])∧S8 w' a (XZ b).1.1)∧Below w w w':=by
 by_cases h:(right b).2=0
 ·exact Dg v b w hv h
 ·exact Fz v b w hv h
theorem K_ {w:World} {v:Value} {i:Ro} (h:S8 w v i):∃ xa xc ya yc za zc,v = .agg (Jq i xa xc ya yc za zc)∧Uf w ⟨i,.slice xa i.blocks.length xc,.slice ya i.gone.length yc,.slice za i.XA.length zc⟩:=by
 obtain ⟨bv,gv,pv,h1,h2,h3,h4⟩:=h.ex;obtain ⟨xa,xc,rfl⟩:=Row.form h2;obtain ⟨ya,yc,rfl⟩:=Row.form h3;obtain ⟨za,zc,rfl⟩:=Row.form h4;exact ⟨xa,xc,ya,yc,za,zc,h1,⟨h2,h3,h4⟩⟩
theorem Ns {w:World} {i:Ro} {xa ya za:Option Addr} {xc yc zc:Nat} (h:Uf w ⟨i,.slice xa i.blocks.length xc,.slice ya i.gone.length yc,.slice za i.XA.length zc⟩):S8 w (.agg (Jq i xa xc ya yc za zc)) i:=⟨_,_,_,rfl,h.b,h.g,h.p⟩
theorem Uf.setRow {w:World} {x:RN} (h:Uf w x) {g:Nat} {c:Array Value} {f:Nat × Nat} (hg:w.heap[g]?=some (.cells c 173 f)) (c':Array Value):Uf (w.setRow g c') x:=
 ⟨Row.setRow h.b hg Zd c',Row.setRow h.g hg Zd c',Row.setRow h.p hg Zd c'⟩
theorem Em (w:World):Uf w ⟨XT,.slice none 0 0,.slice none 0 0,.slice none 0 0⟩:=⟨Row.nil _ _,Row.nil _ _,Row.nil _ _⟩
theorem pg {b:List UInt8} (h:(Xv b).2=true) (h2:¬((Xv b).1=200∨(Xv b).1=201)):(Xv b).1=203∨(Xv b).1=205∨(Xv b).1=206:=by
 unfold Xv at h h2 ⊢;split at h
 ·rename_i h1;rw [ZR h1] at h2 ⊢;omega
 ·rename_i h1
  rw [Z4 h1] at h2 ⊢;split at h
  ·rename_i h3;rw [ZR h3] at h2 ⊢;omega
  ·cases h
theorem wK {b:List UInt8} {k:Nat} (hk:k=203∨k=205∨k=206) (h:(XK b k).2=true):(XK b k).1 % 4=0∧4≤(XK b k).1∧(k≠203→12≤(XK b k).1):=by
 unfold XK at h ⊢;by_cases h1:k=203
 ·dsimp only at h ⊢;rw [ZR h1] at h ⊢;exact ⟨by show (get b 2 2+1)*4 % 4=0;omega,by show 4≤(get b 2 2+1)*4;omega,fun h=>absurd h1 h⟩
 ·dsimp only at h ⊢;rw [Z4 h1] at h ⊢;by_cases h2:k=205
  ·rw [ZR h2] at h ⊢;have h:=(UR _ _).mp h;have h3:=of_decide_eq_true h.1;exact ⟨by show (get b 2 2+1)*4 % 4=0;omega,by show 4≤(get b 2 2+1)*4;omega,fun _=>by show 12≤(get b 2 2+1)*4;omega⟩
  ·rw [Z4 h2] at h ⊢;have h3:=of_decide_eq_true h;exact ⟨by show (get b 2 2+1)*4 % 4=0;omega,by show 4≤(get b 2 2+1)*4;omega,fun _=>by show 12≤(get b 2 2+1)*4;omega⟩
theorem tq (v:Value) (b:List UInt8) (k:Nat) (w:World) (hv:X6 w v b) (hk:k=203∨k=205∨k=206) (h4:b.length % 4=0) (hb:b.length≤1000) (Oj:4≤b.length) (J_:k≠203→12≤b.length) :
  Calls Tryz.prog 172 #[v,.int .i64 (k:Int)] w fun e w'=>(∃ a,e = .returned a∧S8 w' a (parts b k))∧Below w w w':=by
 by_cases h:k=203
 ·subst h;exact tA v b w hv h4 hb Oj
 ·exact Az v b k w hv h4 hb (J_ h) h Zo
theorem po (v:Value) (b:List UInt8) (w:World) (hv:X6 w v b) (hb:b.length≤512) :
  Calls Tryz.prog 151 #[v] w fun e w'=>(∃ a,e = .returned (.tuple #[a,.int .i64 ((Y6 b).1.2:Nat),.int .i64 (Y6 b).2])∧S8 w' a (Y6 b).1.1)∧Below w w w':=by
 have HX:Hid (Y6 b=if b.length<4 then ((XT,0),2) else if at8 b 0 / 32≠4 then ((XT,0),1) else if (Xv b).2=false then ((XT,0),4) else if (Xv b).1=200∨(Xv b).1=201 then XZ b else if (XK b (Xv b).1).2=false then ((XT,0),1) else if b.length<(XK b (Xv b).1).1 then ((XT,0),2) else ((parts (b.take (XK b (Xv b).1).1) (Xv b).1,(XK b (Xv b).1).1),0)):=rfl;have HV:Hid (∀ w',Below w w w'→X6 w' v b):=fun w' h=>hv.below h
 have QJ:=Z8 w (.cells YZ 173);have V6:=Zh (Z' w (.cells YZ 173))
 have UD:Hid (∀ w2 n er,w2.heap[w.heap.size]?=some (.cells YZ 173 (0,0))→Below w w w2→Y6 b=((XT,n),er)→(∃ a,Ending.returned (.tuple (Qs YZ (n:Nat) er)) = .returned (.tuple #[a,.int .i64 ((Y6 b).1.2:Nat),.int .i64 (Y6 b).2])∧S8 (w2.setRow w.heap.size YZ) a (Y6 b).1.1)∧Below w w (w2.setRow w.heap.size YZ)):=fun w2 n er h1 h2 h3=>by
  rw [h3];exact ⟨⟨_,rfl,Ns ((Em w2).setRow h1 _)⟩,Z3 h2 (Zw _) _⟩
 obtain ⟨va,c,rfl,R4,-⟩:=id hv;have W8:=fun h=>RR hv h
 clear hv;have HCC:=Zh R4;clear R4;generalize Y6 b=X at *
 by_cases h1:b.length<4
 ·rw [ZR h1] at HX;clear HV W8;go_enter Tryz.func151,Tryz.ntmps151;go_wp2_with (first|(with_reducible refine ZU 173 (.tmp 2) (.tmp 12) rfl ?_;refine ZV rfl 173 (.tmp 2) (.tmp 12) rfl rfl w.heap.size YZ rfl rfl 173 YZ QJ ZB ZB ZB ?_))
  refine VD (v:= .tuple (Qs YZ 0 2)) ?_ rfl ?_
  ·exact Yx96
  exact UD.o _ 0 2 QJ V6.o HX.o
 obtain ⟨g,off,cap,e1,_,_,hc⟩:=W8 Zo;cases e1;have d0:w.cell? ⟨g,off,none⟩=some (.int .u8 (at8 b 0:Int)):=hc 0 Zo;have l1:decide ((b.length:Int)<4)=false:=WI Zo;have Bh:g<w.heap.size:=World.block_lt_of_cell? w ⟨g,off,none⟩ d0;rw [Z4 h1] at HX;clear hc W8;by_cases h2:at8 b 0 / 32≠4
 ·have q:(((at8 b 0:Nat):Int) / 32 != 4)=true:=by rw [RQ];omega
  rw [ZR h2] at HX;clear h2;go_enter Tryz.func151,Tryz.ntmps151;go_wp2_with (first|(with_reducible refine ZU 173 (.tmp 2) (.tmp 19) rfl ?_;refine ZV rfl 173 (.tmp 2) (.tmp 19) rfl rfl w.heap.size YZ rfl rfl 173 YZ QJ ZB ZB ZB ?_))
  refine VD (v:= .tuple (Qs YZ 0 1)) ?_ rfl ?_
  ·exact Yx96
  exact UD.o _ 0 1 QJ V6.o HX.o
 have q2:(((at8 b 0:Nat):Int) / 32 != 4)=false:=by rw [bne_eq_false_iff_eq];omega
 rw [Z4 h2] at HX;have CK:=Zh (sL _ b (w.alloc (.cells YZ 173)) (HV.o _ V6.o) Zo);have HKO:=Zh (pg (b:=b));clear h2;generalize Xv b=K at *
 obtain ⟨k,ok⟩:=K;dsimp only at HX CK HKO;cases ok with
 | false=>
  rw [ZR rfl] at HX;go_enter Tryz.func151,Tryz.ntmps151;go_wp2_with (first|(go_at_call 169;refine CK.o.mono ?_;rintro e w2 ⟨rfl,Y7⟩;have Sh:=(Y7.block w.heap.size (ZW QJ)).trans QJ;have X8:=Zh (V6.o.trans (Y7.mono V6.o.size));clear Y7)|(with_reducible refine ZU 173 (.tmp 2) (.tmp 27) rfl ?_;refine ZV rfl 173 (.tmp 2) (.tmp 27) rfl rfl w.heap.size YZ rfl rfl 173 YZ Sh ZB ZB ZB ?_))
  refine VD (v:= .tuple (Qs YZ 0 4)) ?_ rfl ?_
  ·exact bM
  exact UD.o _ 0 4 Sh X8.o HX.o
 | true=>
  rw [Z4 Zi] at HX;by_cases hk:k=200∨k=201
  ·rw [ZR hk] at HX
   have kb:((k:Int) == 200)=true∨(((k:Int) == 200)=false∧((k:Int) == 201)=true):=by
    rcases hk with h|h
    ·left;rw [beq_iff_eq];omega
    ·right;exact ⟨by rw [WR];omega,by rw [beq_iff_eq];omega⟩
   clear hk HKO;rcases kb with kb|⟨kb,kb2⟩
   ·exact Yx19
   ·exact Yx19
  ·rw [Z4 hk] at HX;have lB:=HKO.o rfl hk;have kb:((k:Int) == 200)=false:=by rw [WR];omega
   have kb2:((k:Int) == 201)=false:=by rw [WR];omega
   have CL:Hid (∀ w',Below w w w'→Calls Tryz.prog 171 #[(.slice (some ⟨g,off,none⟩) b.length c),.int .i64 (k:Int)] w' fun e w''=>e = .returned (.tuple (Q9 ((XK b k).1:Nat) (XK b k).2))∧w'=w''):=fun w' h=>Ad _ b k w' (HV.o w' h) Zo
   have HLO:=Zh (wK (b:=b) lB);clear hk HKO;generalize XK b k=Y at *
   obtain ⟨n,ok⟩:=Y;dsimp only at HX CL HLO;cases ok with
   | false=>
    rw [ZR rfl] at HX;go_enter Tryz.func151,Tryz.ntmps151;go_wp2_with (first|(go_at_call 169;refine CK.o.mono ?_;rintro e w2 ⟨rfl,Y7⟩;have Sh:=(Y7.block w.heap.size (ZW QJ)).trans QJ;have X8:=Zh (V6.o.trans (Y7.mono V6.o.size));clear Y7)|(go_at_call 171;refine (CL.o _ X8.o).mono ?_;rintro e w3 ⟨rfl,rfl⟩)|(with_reducible refine ZU 173 (.tmp 2) (.tmp 48) rfl ?_;refine ZV rfl 173 (.tmp 2) (.tmp 48) rfl rfl w.heap.size YZ rfl rfl 173 YZ Sh ZB ZB ZB ?_))
    refine VD (v:= .tuple (Qs YZ 0 1)) ?_ rfl ?_
    ·exact bM
    exact UD.o _ 0 1 Sh X8.o HX.o
   | true=>
    rw [Z4 Zi] at HX;obtain ⟨n4,n5,n6⟩:=HLO.o rfl;by_cases qL:b.length<n
    ·rw [ZR qL] at HX;go_enter Tryz.func151,Tryz.ntmps151;go_wp2_with (first|(go_at_call 169;refine CK.o.mono ?_;rintro e w2 ⟨rfl,Y7⟩;have Sh:=(Y7.block w.heap.size (ZW QJ)).trans QJ;have X8:=Zh (V6.o.trans (Y7.mono V6.o.size));clear Y7)|(go_at_call 171;refine (CL.o _ X8.o).mono ?_;rintro e w3 ⟨rfl,rfl⟩)|(with_reducible refine ZU 173 (.tmp 2) (.tmp 54) rfl ?_;refine ZV rfl 173 (.tmp 2) (.tmp 54) rfl rfl w.heap.size YZ rfl rfl 173 YZ Sh ZB ZB ZB ?_))
     refine VD (v:= .tuple (Qs YZ 0 2)) ?_ rfl ?_
     ·exact bM
     exact UD.o _ 0 2 Sh X8.o HX.o
    ·rw [Z4 qL] at HX;obtain ⟨a',Uw,-,ZY⟩:=Sp (P:=Tryz.prog) VF (some ⟨g,off,none⟩) b.length c n (by have:=HCC.o;omega);have dQ:(b.take n).length=n:=by rw [S4];omega
     have CPA:Hid (∀ w',Below w w w'→Calls Tryz.prog 172 (Q7 a' n c (k:Int)) w' fun e w''=>(∃ a,e = .returned a∧S8 w'' a (parts (b.take n) k))∧Below w' w' w''):=fun w' h=>by
      refine tq _ (b.take n) k w' ?_ lB (by rw [dQ];exact n4) (by rw [dQ];omega) (by rw [dQ];exact n5) (by rw [dQ];exact n6);have h5:=ZY w' (RD b) Zo (by rw [Xh,Nat.mul_one]) (HV.o w' h);rw [Nat.mul_one,OX] at h5;show XR _ _ (b.take n).length _;rw [dQ];exact h5
     clear ZY dQ;generalize parts (b.take n) k=i at *
     go_enter Tryz.func151,Tryz.ntmps151;go_wp2_with (first|(go_at_call 169;refine CK.o.mono ?_;rintro e w2 ⟨rfl,Y7⟩;have Sh:=(Y7.block w.heap.size (ZW QJ)).trans QJ;have X8:=Zh (V6.o.trans (Y7.mono V6.o.size));clear Y7)|(go_at_call 171;refine (CL.o _ X8.o).mono ?_;rintro e w3 ⟨rfl,rfl⟩)|(go_at_call 172;refine (CPA.o _ X8.o).mono ?_;rintro e w4 ⟨⟨a,rfl,hit⟩,Oj⟩;obtain ⟨xa,xc,ya,yc,za,zc,ha,Mx⟩:=K_ hit;subst ha;have ym:=Zh Mx;have uP:=(Oj.block w.heap.size (ZW Sh)).trans Sh;have Ux:=Zh (X8.o.trans (Oj.mono X8.o.size));clear hit Mx Oj)|(with_reducible refine ZU 173 (.tmp 2) (.tmp 59) rfl ?_;refine ZV rfl 173 (.tmp 2) (.tmp 59) rfl rfl w.heap.size (Jq i xa xc ya yc za zc) rfl rfl 173 YZ uP ZB ZB ZB ?_))
     refine VD (v:= .tuple (Qs (Jq i xa xc ya yc za zc) (n:Nat) 0)) ?_ rfl ?_
     ·exact UK (p:=2) (u:=3) (v:=4) Zr _ _ w.heap.size 173 (Jq i xa xc ya yc za zc) (0,0) _ Zr (setRow_heap _ _ _ _ _ _ uP) Tryz.underlying173 rfl ZB
     exact ⟨⟨_,by rw [HX.o],by rw [HX.o];exact Ns (ym.o.setRow uP _)⟩,Z3 Ux.o (Zw _) _⟩
end Go.Proofs.By
