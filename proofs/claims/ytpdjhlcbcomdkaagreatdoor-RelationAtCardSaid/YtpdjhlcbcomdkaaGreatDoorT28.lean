/- Part of a proof. -/
import Derived.Test.YtpdjhlcbcomdkaaGreatDoorT27
set_option linter.unusedVariables false
set_option linter.unusedSimpArgs false
set_option maxRecDepth 100000
set_option maxHeartbeats 16000000
open Go Go.Q Go.Qr Go.Proofs.Tryz
namespace Go.Proofs.By
open Go.RowKit Go.Proofs.Heap Go.Proofs
open Go.Proofs.Rm (below_drewN)
open Go.Proofs.Mem
theorem Kw{L:List WE}{x:Zx}{at':Int}(h:(decide (x∈Zu L L.length L.length)&&there x at')=true):∃a b:Nat,x.Mr=a∧at'=b∧a<b∧(b:Int)≤x.fin∧x.fin≤L.length∧b≤L.length∧x.peer≠0∧Oo L x at'=(ZC L x b).want∧MO L x at'=(ZC L x b).cur∧Sr L x at'=(ZC L x b).quiet:=by
 rw[UW,Sz]at h;obtain⟨h1,h2⟩:=h;have h3:=Uu L L.length L.length (Zw _) x h1;have h4:=(LN L L.length (Zw _) x h1).1;have h5:=h2;unfold there at h5;rw[UW,Sz,Sz]at h5;obtain⟨a,ha⟩:=Rw h3.1;obtain⟨b,hb⟩:=Rw (show 0≤at' by omega);refine⟨a,b,ha,hb,Zo,Zo,h3.2.2,Zo,Zo,?_⟩;unfold Oo MO Sr;rw[ZU h1,ZU h1,ZU h1,ZU h2,ZU h2,ZU h2,hb,Wl];exact⟨rfl,rfl,rfl⟩
theorem F6{L:List WE}{x:Zx}{at':Int}(h:(decide (x∈Zu L L.length L.length)&&there x at')=false):Oo L x at'=-1∧MO L x at'=-1∧Sr L x at'=true:=by
 unfold Oo MO Sr;by_cases h1:x∈Zu L L.length L.length
 ·rw[Ww h1,Bool.true_and]at h;rw[ZU h1,ZU h1,ZU h1,h];exact⟨rfl,rfl,rfl⟩
 ·rw[Z3 h1,Z3 h1,Z3 h1];exact⟨rfl,rfl,rfl⟩
theorem dV{w:World}{k:Nat}{L:List WE}(h:tT w k L)(x:Zx)(at':Int):Calls prog 32 (Qt (some ⟨k,0,none⟩) (Z8 x).toArray at') w fun e w'=>e = .returned (.int .i64 (Oo L x at'))∧Below w w w':=by
 have CI:=Zh (fun(w':World) (hb:Below w w w')=>(h.below hb).is x at');cases hB:(decide (x∈Zu L L.length L.length)&&there x at')with
 | false=>
  obtain⟨HW,-,-⟩:=F6 hB;rw[hB]at CI;rw[HW];clear hB HW;obtain⟨xp,xs,xb,xf⟩:=x;dsimp only[Z8]at *
  have hz:=Z9 w (.cells (Qb xp xs xb xf) 59);have HB:Hid (Below w w (w.alloc (.cells (Qb xp xs xb xf) 59))):=Z' w _;have HZ:=Zh hz;clear hz h;go_enter func32,ntmps32;exact Yt6
 | true=>
  obtain⟨a,b,e1,e2,Sn,hbf,hf,hbL,hp,HW,-,-⟩:=Kw hB;have CD:=Zh (fun(w':World) (hb:Below w w w') (j:Nat) (hj:j<L.length)=>(h.below hb).done hj 12 x.peer x.source);obtain⟨g,o,c,g1,o1,c1,g2,o2,c2,dU⟩:=h.cells Zo;have HY:=Zh dU;have hLL:=h.1;rw[hB]at CI;rw[HW];have Hb:Hid (∀j,j<b→a<j→Zt L j 12 x.peer x.source=true→(∀i,j<i→i<b→Zt L i 12 x.peer x.source=false)→(ZC L x b).want=(opAt L j).ZI):=fun j h1 h2 h3 h4=>nN hp h1 (by unfold Wh;rw[Ww Zo,Ww Zo];rfl) h3 (fun i q1 q2 _=>h4 i q1 q2)
  have NON:Hid ((∀i,a<i→i<b→Zt L i 12 x.peer x.source=false)→(ZC L x b).want=(opAt L a).ZI):=fun h4=>by
   have:=rF (L:=L) (x:=x) hp (b:=b) (fun j h1 h2=>h4 j (by unfold Wh at h2;rw[UW,Sz]at h2;omega) h1);rw[this,e1,Wl]
  clear hB HW hp dU;generalize(ZC L x b).want=W at *
  obtain⟨xp,xs,xb,xf⟩:=x;dsimp only[Z8]at *
  subst e1;subst e2;have hmin:min (b:Int) xf=b:=by omega
  have hz:=Z9 w (.cells (Qb xp xs (a:Int) xf) 59);have HB:Hid (Below w w (w.alloc (.cells (Qb xp xs (a:Int) xf) 59))):=Z' w _;have HZ:=Zh hz;clear hz h;go_enter func32,ntmps32;go_wp2_with (first|(with_reducible refine Zl HZ.o underlying59 ?_)|(go_at_call 57;refine(CI.o _ HB.o).mono ?_;rintro e w2 ⟨rfl,Zb⟩;have Yg:Hid (Below w w w2):=Tr HB Zb;have oY:=Zh ((Zb.block _ (ZX HZ.o)).trans HZ.o);have x3:w2.cell? ⟨w,3,none⟩=some (.int .i64 xf):=(Zc oY.o 3 rfl);clear Zb))
  clear x3 hmin;go_loopw [7] (fun s7 w'=>∃j:Nat,a≤j∧j<b∧s7 = .int .i64 (j:Int)∧Below w2 w2 w'∧∀i,j<i→i<b→Zt L i 12 xp xs=false) (fun s7 _=>(intOf s7).toNat)
  case atStart=>exact⟨b-1,Zo,Zo,by rw[Int.ofNat_sub Zo];rfl,YI _ _,fun i h1 h2=>by omega⟩
  case round=>
   obtain⟨j,h1,h2,rfl,Xz,Ov⟩:=hrel;have tE:Hid (Below w w wr):=Tr Yg Xz;have TY:=(Xz.block _ (ZX oY.o)).trans oY.o;have x0:wr.cell? ⟨w,0,none⟩=some (.int .i64 xp):=Zc TY 0 rfl;have x1:wr.cell? ⟨w,1,none⟩=some (.int .i64 xs):=Zc TY 1 rfl;have x2:wr.cell? ⟨w,2,none⟩=some (.int .i64 (a:Int)):=Zc TY 2 rfl;have II:=Zh Ov;have HBM0:=Zh Xz;clear Ov TY Xz;by_cases uy:a<j
   ·have hajI:(a:Int)<(j:Int):=P6.2 uy;have hjL:(j:Int)<(L.length:Int):=by omega
    have wP:=CD.o _ tE.o j Zo;have HIJ:=Zh (Hb.o j h2 uy);have HLT:=Zh (show j<L.length by omega);have jo:=Zh uy;have HJB:=Zh h2;clear uy;cases hd:Zt L j 12 xp xs with
    | true=>
     rw[hd]at wP;have wP:=Zh wP;have HE:=Zh (HIJ.o hd II.o);clear hd HIJ;go_wp2_with (go_at_call 63;refine wP.o.mono ?_;rintro e w3 ⟨rfl,WT⟩;have WU:Hid (Below w w w3):=Tr tE WT;have y0:=(HY.o.below WU.o).c0;have y1:=(HY.o.below WU.o).lay j HLT.o;clear WT)
     go_ret;exact⟨by rw[HE.o];rfl,WU.o⟩
    | false=>
     rw[hd]at wP;have wP:=Zh wP;have HD:=Zh hd;clear hd HIJ;go_wp2_with (go_at_call 63;refine wP.o.mono ?_;rintro e w3 ⟨rfl,WT⟩;have WU:=Zh WT;clear WT)
     go_roundw
     case rel=>exact⟨j-1,by have:=jo.o;omega,Zo,by rw[Int.ofNat_sub (by have:=jo.o;omega)];rfl,Tr HBM0 WU.o,fun i q1 q2=>by
      by_cases q:i=j
      ·rw[q];exact HD.o
      ·exact II.o i Zo q2⟩
     case measure=>have:=jo.o;simp[intOf];omega
   ·have hja:j=a:=by omega
    subst hja;have HE:=NON.o II.o;have y0:=(HY.o.below tE.o).c0;have y1:=(HY.o.below tE.o).lay j Zo;have hjL:(j:Int)<(L.length:Int):=by omega
    have HE:=Zh HE;go_upto_region 8 with fail
    go_quiet (fail)
    go_wp2_with fail
    go_ret;exact⟨by rw[HE.o];rfl,below_drewN tE.o _⟩
theorem mY{w:World}{k:Nat}{L:List WE}(h:tT w k L)(x:Zx)(at':Int):Calls prog 34 (Qt (some ⟨k,0,none⟩) (Z8 x).toArray at') w fun e w'=>e = .returned (.bool (Sr L x at'))∧Below w w w':=by
 have CI:=Zh (fun(w':World) (hb:Below w w w')=>(h.below hb).is x at');cases hB:(decide (x∈Zu L L.length L.length)&&there x at')with
 | false=>
  obtain⟨-,-,HW⟩:=F6 hB;rw[hB]at CI;rw[HW];clear hB HW;obtain⟨xp,xs,xb,xf⟩:=x;dsimp only[Z8]at *
  have hz:=Z9 w (.cells (Qb xp xs xb xf) 59);have HB:Hid (Below w w (w.alloc (.cells (Qb xp xs xb xf) 59))):=Z' w _;have HZ:=Zh hz;clear hz h;go_enter func34,ntmps34;exact Yt6
 | true=>
  obtain⟨a,b,e1,e2,Sn,hbf,hf,hbL,hp,-,-,HW⟩:=Kw hB;have CD:=Zh (fun(w':World) (hb:Below w w w') (j:Nat) (hj:j<L.length) (kd pr:Int)=>(h.below hb).done hj kd pr x.source);have hLL:=h.1;rw[hB]at CI;rw[HW];have hl:∀j:Nat,a<j→j<b→Wh x j=true:=fun j h1 h2=>by unfold Wh;rw[Ww Zo,Ww Zo];rfl
  have Q1:Hid (∀j,j<b→a<j→Zt L j 10 x.peer x.source=true→(∀i,j<i→i<b→Zt L i 10 x.peer x.source=false∧Zt L i 11 x.peer x.source=false)→(ZC L x b).quiet=true):=fun j h1 h2 h3 h4=>by unfold VS.quiet;rw[ve hp h1 (hl j h2 h1) h3 (fun i q1 q2 _=>h4 i q1 q2)];rfl
  have Q2:Hid (∀j,j<b→a<j→Zt L j 11 x.peer x.source=true→(∀i,j<i→i<b→Zt L i 10 x.peer x.source=false∧Zt L i 11 x.peer x.source=false)→(ZC L x b).ZV=false):=fun j h1 h2 h3 h4=>zq hp h1 (hl j h2 h1) h3 (fun i q1 q2 _=>h4 i q1 q2)
  have Q3:Hid ((∀i,a<i→i<b→Zt L i 10 x.peer x.source=false∧Zt L i 11 x.peer x.source=false)→(ZC L x b).ZV=false):=fun h4=>zh hp (fun j h1 h2=>h4 j (by unfold Wh at h2;rw[UW,Sz]at h2;omega) h1)
  have M1:Hid (∀j,j<b→Zt L j 8 0 x.source=true→(∀i,j<i→i<b→Zt L i 8 0 x.source=false∧Zt L i 9 0 x.source=false∧Zt L i 4 0 x.source=false)→(ZC L x b).quiet=true):=fun j h1 h3 h4=>by unfold VS.quiet;rw[qI h1 h3 (fun i q1 q2=>h4 i q1 q2),Bool.or_true]
  have M2:Hid (∀j,j<b→(Zt L j 9 0 x.source=true∨Zt L j 4 0 x.source=true)→(∀i,j<i→i<b→Zt L i 8 0 x.source=false∧Zt L i 9 0 x.source=false∧Zt L i 4 0 x.source=false)→(ZC L x b).ZN=false):=fun j h1 h3 h4=>zR h1 h3 (fun i q1 q2=>h4 i q1 q2)
  have M3:Hid ((∀i,i<b→Zt L i 8 0 x.source=false∧Zt L i 9 0 x.source=false∧Zt L i 4 0 x.source=false)→(ZC L x b).ZN=false):=fun h4=>uX (fun j h1=>h4 j h1)
  have QF:Hid ((ZC L x b).ZV=false→(ZC L x b).ZN=false→(ZC L x b).quiet=false):=fun h1 h2=>by unfold VS.quiet;rw[h1,h2];rfl
  clear hB HW hp hl;generalize(ZC L x b).quiet=Q at *
  generalize(ZC L x b).ZV=PZ at *
  generalize(ZC L x b).ZN=MZ at *
  obtain⟨xp,xs,xb,xf⟩:=x;dsimp only[Z8]at *
  subst e1;subst e2;have hz:=Z9 w (.cells (Qb xp xs (a:Int) xf) 59);have HB:Hid (Below w w (w.alloc (.cells (Qb xp xs (a:Int) xf) 59))):=Z' w _;have HZ:=Zh hz;clear hz h;go_enter func34,ntmps34
  go_upto_block 0 with(first|(with_reducible refine Zl HZ.o underlying59 ?_)|(go_at_call 57;refine(CI.o _ HB.o).mono ?_;rintro e w2 ⟨rfl,Zb⟩;have Yg:Hid (Below w w w2):=Tr HB Zb;have oY:=Zh ((Zb.block _ (ZX HZ.o)).trans HZ.o);clear Zb))
  go_cut [7] (fun s7 wy=>Hid (PZ=false)∧Below w2 w2 wy)
  case first=>
   go_wp2_with fail
   go_loopw [7] (fun s7 w'=>∃j:Nat,a≤j∧j<b∧s7 = .int .i64 (j:Int)∧Below w2 w2 w'∧∀i,j<i→i<b→Zt L i 10 xp xs=false∧Zt L i 11 xp xs=false) (fun s7 _=>(intOf s7).toNat)
   case atStart=>exact⟨b-1,Zo,Zo,by rw[Int.ofNat_sub Zo];rfl,YI _ _,fun i h1 h2=>by omega⟩
   case round=>
    obtain⟨j,h1,h2,rfl,Xz,Ov⟩:=hrel;have tE:=Zh Xz;have oI:Hid (Below w w wr):=Tr Yg Xz;have TY:=(Xz.block _ (ZX oY.o)).trans oY.o;have x0:wr.cell? ⟨w,0,none⟩=some (.int .i64 xp):=Zc TY 0 rfl;have x1:wr.cell? ⟨w,1,none⟩=some (.int .i64 xs):=Zc TY 1 rfl;have x2:wr.cell? ⟨w,2,none⟩=some (.int .i64 (a:Int)):=Zc TY 2 rfl;have II:=Zh Ov;clear Ov TY Xz;by_cases uy:a<j
    ·have hajI:(a:Int)<(j:Int):=P6.2 uy;have jo:=Zh uy;have HJB:=Zh h2;have wP:=fun w' hb=>CD.o w' hb j Zo 10 xp
     have oG:=fun w' hb=>CD.o w' hb j Zo 11 xp
     have QJ:=Q1.o j h2 uy;have QK:=Q2.o j h2 uy;clear uy;cases hd:Zt L j 10 xp xs with
     | true=>
      rw[hd]at wP;have wP:=Zh (wP _ oI.o);have HE:=Zh (QJ hd II.o);clear hd QJ QK oG;go_wp2_with (go_at_call 63;refine wP.o.mono ?_;rintro e w3 ⟨rfl,WT⟩;have WU:Hid (Below w w w3):=Tr oI WT;clear WT)
      go_ret;exact⟨by rw[HE.o];rfl,WU.o⟩
     | false=>
      rw[hd]at wP;have wP:=Zh (wP _ oI.o);have oG:=Zh oG;have HD:=Zh hd;have QK:=Zh QK;clear hd QJ;go_upto_region 8 with(go_at_call 63;refine wP.o.mono ?_;rintro e w3 ⟨rfl,WT⟩;have WU:Hid (Below w w w3):=Tr oI WT;have HM3:Hid (Below w2 w2 w3):=Tr tE WT;have x0:=ZG x0 WT;have x1:=ZG x1 WT;clear WT)
      have oG:=oG.o w3 WU.o;cases hd:Zt L j 11 xp xs with
      | true=>
       rw[hd]at oG;have oG:=Zh oG;have HE:=Zh (QK.o hd II.o);clear hd;go_wp2_with (go_at_call 63;refine oG.o.mono ?_;rintro e w4 ⟨rfl,TW⟩;have eG:Hid (Below w2 w2 w4):=Tr HM3 TW;clear TW)
       go_meet;exact⟨HE,eG.o⟩
      | false=>
       rw[hd]at oG;have oG:=Zh oG;have HF:=Zh hd;clear hd;go_wp2_with (go_at_call 63;refine oG.o.mono ?_;rintro e w4 ⟨rfl,TW⟩;have eG:Hid (Below w2 w2 w4):=Tr HM3 TW;clear TW)
       go_roundw
       case rel=>exact⟨j-1,by have:=jo.o;omega,Zo,by rw[Int.ofNat_sub (by have:=jo.o;omega)];rfl,eG.o,fun i q1 q2=>by
        by_cases q:i=j
        ·rw[q];exact⟨HD.o,HF.o⟩
        ·exact II.o i Zo q2⟩
       case measure=>have:=jo.o;simp[intOf];omega
    ·have hja:j=a:=by omega
     subst hja;have HE:=Zh (Q3.o II.o);go_wp2_with fail
     go_meet;exact⟨HE,tE.o⟩
  case rest=>
   obtain⟨HPZ,hb⟩:=hcut;have HBC:Hid (Below w w wc):=Tr Yg hb;have HZC:=Zh ((hb.block _ (ZX oY.o)).trans oY.o);clear hb Q1 Q2 Q3;go_wp2_with fail
   go_loopw [8] (fun s8 w'=>∃(m:Nat) (i:Int),m≤b∧i=(m:Int)-1∧s8 = .int .i64 i∧Below wc wc w'∧∀i,m≤i→i<b→Zt L i 8 0 xs=false∧Zt L i 9 0 xs=false∧Zt L i 4 0 xs=false) (fun s8 _=>(intOf s8+1).toNat)
   case atStart=>exact⟨b,_,Zo,rfl,rfl,YI _ _,fun i h1 h2=>by omega⟩
   case round=>
    obtain⟨m,i,h1,hi,rfl,Xz,Ov⟩:=hrel;have tE:=Zh Xz;have oI:Hid (Below w w wr):=Tr HBC Xz;have TY:=(Xz.block _ (ZX HZC.o)).trans HZC.o;have x1:wr.cell? ⟨w,1,none⟩=some (.int .i64 xs):=Zc TY 1 rfl;have II:=Zh Ov;clear Ov TY Xz;rcases m with _|j
    ·have e:i=-1:=by omega
     subst e;have HE:=Zh (M3.o (fun i h=>II.o i (TH _) h));clear hi;go_wp2_with fail
     go_ret;exact⟨by rw[QF.o HPZ.o HE.o];rfl,oI.o⟩
    ·have e:i=(j:Int):=by omega
     subst e;clear hi;have h1:j<b:=by omega
     have h0I:(0:Int)≤(j:Int):=by omega
     have bt:=CD.o _ oI.o j Zo 8 0;have je:=Zh (fun w' hb=>CD.o w' hb j Zo 9 0);have CD4:=Zh (fun w' hb=>CD.o w' hb j Zo 4 0);have MJ:=Zh (M1.o j h1);have MK:=Zh (M2.o j h1);cases hd:Zt L j 8 0 xs with
     | true=>
      rw[hd]at bt;have bt:=Zh bt;have HE:=Zh (MJ.o hd II.o);clear hd;go_wp2_with (go_at_call 63;refine bt.o.mono ?_;rintro e w3 ⟨rfl,WT⟩;have WU:Hid (Below w w w3):=Tr oI WT;clear WT)
      go_ret;exact⟨by rw[HE.o];rfl,WU.o⟩
     | false=>
      rw[hd]at bt;have bt:=Zh bt;have HD:=Zh hd;clear hd;go_upto_region 14 with(go_at_call 63;refine bt.o.mono ?_;rintro e w3 ⟨rfl,WT⟩;have WU:Hid (Below w w w3):=Tr oI WT;have HM3:Hid (Below wc wc w3):=Tr tE WT;have x1:=ZG x1 WT;clear WT)
      have je:=je.o w3 WU.o;cases hd9:Zt L j 9 0 xs with
      | true=>
       rw[hd9]at je;have je:=Zh je;have HE:=Zh (MK.o (WO hd9) II.o);clear hd9;go_wp2_with (go_at_call 63;refine je.o.mono ?_;rintro e w4 ⟨rfl,TW⟩;have Va:Hid (Below w w w4):=Tr WU TW;clear TW)
       go_ret;exact⟨by rw[QF.o HPZ.o HE.o];rfl,Va.o⟩
      | false=>
       rw[hd9]at je;have je:=Zh je;have bE:=Zh hd9;clear hd9;cases gK:Zt L j 4 0 xs with
       | true=>
        have CD4:=Zh (fun w' hb=>gK▸CD4.o w' hb);have HE:=Zh (MK.o (WB gK) II.o);clear gK;go_wp2_with (go_at_call 63;first|((with_reducible refine je.o.mono ?_);rintro e w4 ⟨rfl,TW⟩;have Va:Hid (Below w w w4):=Tr WU TW;have x1:=ZG x1 TW;clear TW)|((with_reducible refine(CD4.o _ Va.o).mono ?_);rintro e w5 ⟨rfl,NI⟩;have P5:Hid (Below w w w5):=Tr Va NI;clear NI))
        go_ret;exact⟨by rw[QF.o HPZ.o HE.o];rfl,P5.o⟩
       | false=>
        have CD4:=Zh (fun w' hb=>gK▸CD4.o w' hb);have HD4:=Zh gK;clear gK;go_wp2_with (go_at_call 63;first|((with_reducible refine je.o.mono ?_);rintro e w4 ⟨rfl,TW⟩;have Va:Hid (Below w w w4):=Tr WU TW;have eG:Hid (Below wc wc w4):=Tr HM3 TW;have x1:=ZG x1 TW;clear TW)|((with_reducible refine(CD4.o _ Va.o).mono ?_);rintro e w5 ⟨rfl,NI⟩;have HM5:Hid (Below wc wc w5):=Tr eG NI;clear NI))
        go_roundw
        case rel=>exact⟨j,_,Zo,rfl,rfl,HM5.o,fun i q1 q2=>by
         by_cases q:i=j
         ·rw[q];exact⟨HD.o,bE.o,HD4.o⟩
         ·exact II.o i Zo q2⟩
        case measure=>simp[intOf]
end Go.Proofs.By
namespace Go.Proofs.By
open Go.RowKit Go.Proofs.Heap Go.Proofs
open Go.Proofs.Rm (below_drewN)
open Go.Proofs.Mem
theorem packR{w:World}{k:Nat}{L:List WE}(h:tT w k L)(x:Zx){j:Nat}(hl:Wh x j=true)(hj:j<L.length):Calls prog 59 (Qt (some ⟨k,0,none⟩) (Z8 x).toArray (j:Int)) w fun e w'=>e = .returned (.bool (XU L x j))∧Below w w w':=by
 obtain⟨g,o,c,g1,o1,c1,g2,o2,c2,dU⟩:=h.cells Zo;have hLL:=h.1;have HP:Hid (XU L x j=(((Z5 L j).XX.kind==1)&&((Z5 L j).XX.source==x.source))):=by show _=_;unfold XU;rw[hl];rfl
 unfold Wh at hl;rw[UW,Sz,Sz]at hl;obtain⟨hl1,hl2⟩:=hl;obtain⟨xp,xs,xb,xf⟩:=x;dsimp only[Z8]at *
 have HB:Hid (Below w w (w.alloc (.cells (Qb xp xs xb xf) 59))):=Z' w _;have hz:=Z9 w (.cells (Qb xp xs xb xf) 59);have HY:=dU.below HB.o;have y0:=HY.c1;have y1:=HY.kd j hj;have y2:=HY.so j hj;have Cy:(j:Int)<(L.length:Int):=P6.2 hj;clear h dU HY;generalize XU L ⟨xp,xs,xb,xf⟩ j=P at *
 generalize(Z5 L j).XX.kind=K at *
 generalize(Z5 L j).XX.source=S at *
 go_enter func59,ntmps59;go_upto_region 1 with fail
 generalize w.alloc (.cells (Qb xp xs xb xf) 59)=w1 at *
 have x1:w1.cell? ⟨w,1,none⟩=some (.int .i64 xs):=Zc hz 1 rfl;have x2:w1.cell? ⟨w,2,none⟩=some (.int .i64 xb):=Zc hz 2 rfl;have x3:w1.cell? ⟨w,3,none⟩=some (.int .i64 xf):=Zc hz 3 rfl;clear hz;cases hk:(K==1)
 ·go_quiet (fail)
  go_wp2_with fail
  go_ret;exact⟨by rw[HP.o,hk];rfl,below_drewN HB.o _⟩
 ·cases hs:(S==xs)
  all_goals
   go_quiet (fail)
   go_wp2_with fail
   go_ret;exact⟨by rw[HP.o,hk,hs];rfl,below_drewN HB.o _⟩
open Go.Proofs.Rm (YL)
def UO(e:rJ):List Value:=(Q8 e.event e.seq e.time e.Yl e.frame e.sw)
theorem r8:Elem prog 61 70 6 32:=⟨underlying61,⟨.agg (Q8 0 0 0 0 0 false),by kernel_rfl,rfl⟩,by decide⟩
theorem rG(n:Int) : -32768≤IntKind.i16.wrap n∧IntKind.i16.wrap n<32768:=by
 simp only[IntKind.wrap,IntKind.bits,IntKind.signed];simp;split <;> omega
theorem ji(a b:Int)(w:World):Calls prog 67 (Qy a b) w fun e w'=>e = .returned (.int .i64 (NV a b))∧w=w':=by
 have HX:Hid (NV a b=IntKind.i16.wrap (IntKind.u16.wrap (a-b))):=rfl;have h1:=rG (IntKind.u16.wrap (a-b));have hw:IntKind.i64.wrap (IntKind.i16.wrap (IntKind.u16.wrap (a-b)))=IntKind.i16.wrap (IntKind.u16.wrap (a-b)):=Te _ Zo;generalize NV a b=X at *
 clear h1;go_enter func67,ntmps67;go_wp2;go_ret;exact⟨by rw[HX.o];rfl,rfl⟩
theorem oC(a b:Int)(w:World):Calls prog 38 (Qy a b) w fun e w'=>e = .returned (.bool (decide (0<NV a b)))∧w=w':=by
 have CD:=Zh (ji a b w);generalize NV a b=d at *
 go_enter func38,ntmps38;go_wp2_with (go_at_call 67;refine CD.o.mono ?_;rintro e w' ⟨rfl,rfl⟩)
 go_ret;exact⟨rfl,rfl⟩
section
variable {w:World} {V k:Nat} {ov av mv lv:Value} {L:List WE} {x:Zx} {wv cv qv:Value}
theorem kQ{a:Option Addr}{n c:Nat}{l:List rJ}(h:Row w 70 (.slice a n c) n (l.flatMap UO)){m:Nat}(hm:m<l.length):∃g o,a=some ⟨g,o,none⟩∧w.cell? ⟨g,o+m*6,none⟩=some (.int .i64 (l.getD m KL).event)∧w.cell? ⟨g,o+m*6+2,none⟩=some (.int .u32 (l.getD m KL).time):=by
 obtain⟨g,o,e,h2⟩:=TI UO 6 (fun _=>rfl) h Zo;have hz:l[m]?=some (l.getD m KL):=by rw[Q_,Ve hm];rfl
 exact⟨g,o,e,h2 m _ hz 0 Zo,h2 m _ hz 2 Zo⟩
theorem IU(h:VB w V k ov av mv lv L x wv cv qv){j:Nat}(hj:j<L.length){s:VS}(hs:bO w wv cv qv j s)(ea:Option Addr)(ec:Nat)(l:List rJ)(z1 z2 z3:Int)(hr:Row w 70 (.slice ea l.length ec) l.length (l.flatMap UO))(he:∀e∈l,0≤e.event∧e.event<L.length)(hl:l.length≤1000) :
  Calls prog 90 (Qt (some ⟨V,0,none⟩) (Qx ea l.length ec z1 z2 z3) (j:Int)) w fun e w'=>e = .returned (.bool (Cn L s l j))∧Below w w w':=by
 obtain⟨g,o,c,a1,n1,c1,a2,n2,c2,a3,n3,c3,lO,hm⟩:=JC h hj;subst lO;obtain⟨g2,o2,m2,d2,Hi,l2,e2⟩:=hs.cur;subst Hi;have hVl:=ZX h.view;have VM:=ZX h.book;have v0:w.cell? ⟨V,0,none⟩=some (.pointer (some ⟨k,0,none⟩)):=Zc h.view 0 rfl;have v6:w.cell? ⟨V,6,none⟩=some (.slice (some ⟨g2,o2,none⟩) m2 d2):=Zc h.view 6 rfl;have b2:w.cell? ⟨k,2,none⟩=some (.slice (some ⟨g,o,none⟩) L.length c):=Zc h.book 2 rfl;have HX:Hid (Cn L s l j=(decide ((Z5 L j).Wx.ZI=s.cur) && !decide (l.length=0)&&decide (0<NV (Z5 L j).XQ.seq (Z5 L (NL l).event.toNat).XQ.seq))):=rfl;have Cy:(j:Int)<(L.length:Int):=P6.2 hj;have i2:(j:Int)<(m2:Int):=P6.2 l2;have jD:=Zh (fun(q:Nat) (hq:q<L.length)=>JC h hq);have HKB:Hid (∀w',Below w w w'→w'.cell? ⟨V,0,none⟩=some (.pointer (some ⟨k,0,none⟩))∧w'.cell? ⟨k,2,none⟩=some (.slice (some ⟨g,o,none⟩) L.length c)):=fun w' hb=>⟨ZG v0 hb,ZG b2 hb⟩
 clear h hs;generalize Cn L s l j=X at *
 generalize s.cur=cu at *
 have Vk:Hid (Below w w (w.alloc (.cells (Qx ea l.length ec z1 z2 z3) 162))):=Z' w _;have wO:(w.alloc (.cells (Qx ea l.length ec z1 z2 z3) 162)).heap[w.heap.size]?=some (.cells (Qx ea l.length ec z1 z2 z3) 162 (0,0)):=Z9 w _;have dF:(w.alloc (.cells (Qx ea l.length ec z1 z2 z3) 162)).rangeAt g (o+j*15) (Qg (Z5 L j).XQ.Xw (Z5 L j).XQ.type (Z5 L j).XQ.seq (Z5 L j).XQ.time (Z5 L j).XQ.Yl a1 n1 c1 (Z5 L j).XQ.Xv (Z5 L j).XQ.X9 a2 n2 c2 a3 n3 c3 (Z5 L j).XQ.pad (Z5 L j).Wx.ZI (Z5 L j).Wx.key (Z5 L j).Wx.start (Z5 L j).Wx.frame):=fun m v hv=>ZG (hm m v hv) Vk.o
 have hz:((w.alloc (.cells (Qx ea l.length ec z1 z2 z3) 162)).alloc (.cells TL 97)).heap[w.heap.size+1]?=some (.cells TL 97 (0,0)):=by
  have h:=Z9 (w.alloc (.cells (Qx ea l.length ec z1 z2 z3) 162)) (.cells TL 97);rw[size_alloc]at h;exact h
 generalize(Z5 L j).XQ=P at *
 generalize(Z5 L j).Wx=D at *
 have WU:Hid (Below w w (((w.alloc (.cells (Qx ea l.length ec z1 z2 z3) 162)).alloc (.cells TL 97)).setRow (w.heap.size+1) (Jv P.Xw P.type P.seq P.time P.Yl a1 n1 c1 P.Xv P.X9 a2 n2 c2 a3 n3 c3 P.pad D))):=Z0 (ZF Vk.o (Zw _) _) (J_ _) _;have SQ:=setRow_heap _ _ _ (Jv P.Xw P.type P.seq P.time P.Yl a1 n1 c1 P.Xv P.X9 a2 n2 c2 a3 n3 c3 P.pad D) _ _ hz
 have rS:Hid ((((w.alloc (.cells (Qx ea l.length ec z1 z2 z3) 162)).alloc (.cells TL 97)).setRow (w.heap.size+1) (Jv P.Xw P.type P.seq P.time P.Yl a1 n1 c1 P.Xv P.X9 a2 n2 c2 a3 n3 c3 P.pad D)).heap[w.heap.size]?=some (.cells (Qx ea l.length ec z1 z2 z3) 162 (0,0))):=by
  show _=_;rw[setRow_other _ _ _ _ Zo,(Z' (w.alloc (.cells (Qx ea l.length ec z1 z2 z3) 162)) _).block _ (ZX wO)];exact wO
 clear hm wO Vk;go_enter func90,ntmps90;go_upto_region 2 with(first|(with_reducible refine Zm dF underlying97 ?_)|(with_reducible refine Zs (cells:=(Jv P.Xw P.type P.seq P.time P.Yl a1 n1 c1 P.Xv P.X9 a2 n2 c2 a3 n3 c3 P.pad D)) hz ?_))
 clear hz dF v0 b2;have KC:Hid (∀(g o:Nat) (u:Value),w.cell? ⟨g,o,none⟩=some u→(((w.alloc (.cells (Qx ea l.length ec z1 z2 z3) 162)).alloc (.cells TL 97)).setRow (w.heap.size+1) (Jv P.Xw P.type P.seq P.time P.Yl a1 n1 c1 P.Xv P.X9 a2 n2 c2 a3 n3 c3 P.pad D)).cell? ⟨g,o,none⟩=some u):=fun g o u hc=>ZG hc WU.o
 replace v6:=KC.o _ _ _ v6;replace e2:=KC.o _ _ _ e2;have KB:Hid (∀w',Below w w w'→w'.cell? ⟨V,0,none⟩=some (.pointer (some ⟨k,0,none⟩))∧w'.cell? ⟨k,2,none⟩=some (.slice (some ⟨g,o,none⟩) L.length c)):=HKB.o;generalize(((w.alloc (.cells (Qx ea l.length ec z1 z2 z3) 162)).alloc (.cells TL 97)).setRow (w.heap.size+1) (Jv P.Xw P.type P.seq P.time P.Yl a1 n1 c1 P.Xv P.X9 a2 n2 c2 a3 n3 c3 P.pad D))=w3 at *
 have y11:w3.cell? ⟨w.heap.size+1,11,none⟩=some (.int .i64 D.ZI):=Zc SQ 11 rfl;have y2:w3.cell? ⟨w.heap.size+1,2,none⟩=some (.int .u16 P.seq):=Zc SQ 2 rfl;have k0:w3.cell? ⟨w,0,none⟩=some (.slice ea l.length ec):=Zc rS.o 0 rfl;have HK:=Zh (KB.o _ WU.o);clear SQ rS KB HKB;by_cases h1:D.ZI=cu
 rotate_left
 ·have f1:(D.ZI !=cu)=true:=by rw[RH];exact h1
  go_quiet (fail)
  have Va:=Zh (below_drewN WU.o nq);go_wp2_with fail
  go_ret;exact⟨by rw[HX.o,Wz h1];rfl,Va.o⟩
 have f1:(D.ZI !=cu)=false:=by rw[bne_eq_false_iff_eq];exact h1
 have H1:=Zh h1;clear h1;by_cases h2:l.length=0
 ·have f2:((l.length:Int)==0)=true:=by rw[beq_iff_eq];omega
  have H2:=Zh h2;clear h2;go_quiet (fail)
  have Va:=Zh (below_drewN WU.o nq);go_wp2_with fail
  go_ret;exact⟨by rw[HX.o,Ww H2.o];simp,Va.o⟩
 have f2:((l.length:Int)==0)=false:=by rw[WM];omega
 obtain⟨m,hm⟩:∃m,l.length=m+1:=⟨l.length-1,Zo⟩;obtain⟨ge,oe,gL,x0,-⟩:=kQ (m:=m) hr Zo;subst gL
 have yC:l.getD m KL∈l:=by
  rw[Q_,Ve (by omega:m<l.length)];exact OC _
 have Kt:=he _ yC;have dE:NL l=l.getD m KL:=by unfold NL;rw[hm];rfl
 rw[dE]at HX;generalize l.getD m KL=E at *
 obtain⟨q,hq⟩:∃q:Nat,E.event=(q:Int):=⟨E.event.toNat,Zo⟩;rw[hq]at x0 HX Kt;have hqL:q<L.length:=by omega
 have Mo:Hid (X=decide (0<NV P.seq (Z5 L q).XQ.seq)):=by
  show _=_;rw[HX.o,Ww H1.o,Wz h2];rfl
 obtain⟨g',o',c',b1,r1,s1,b2',r2,s2,b3,r3,s3,lH,hmq⟩:=jD.o q hqL;cases lH;have x2:=KC.o _ _ _ (Pc hmq 2 rfl);replace x0:=KC.o _ _ _ x0;have hqI:(q:Int)<(L.length:Int):=P6.2 hqL;have CA:=Zh (fun(w':World)=>oC P.seq (Z5 L q).XQ.seq w');generalize NV P.seq (Z5 L q).XQ.seq=df at *
 have iX:IntKind.i64.wrap ((l.length:Int)-1)=(m:Int):=by rw[Te _ Zo];omega
 have lL:(m:Int)<(l.length:Int):=by omega
 have hmN:m<l.length:=by omega
 have HM:=Zh hm;clear HX H1 h2 hr he yC Kt dE hq jD hmq KC hm;go_quiet (fail)
 have Va:=Zh (below_drewN WU.o nq);have HK4:Hid ((w3.drewN nq).cell? ⟨V,0,none⟩=some (.pointer (some ⟨k,0,none⟩))∧(w3.drewN nq).cell? ⟨k,2,none⟩=some (.slice (some ⟨g,o,none⟩) L.length c)):=HK.o;have x0':(w3.drewN nq).cell? ⟨ge,oe+m*6,none⟩=some (.int .i64 (q:Int)):=x0;have x2':(w3.drewN nq).cell? ⟨g,o+q*15+2,none⟩=some (.int .u16 (Z5 L q).XQ.seq):=x2;have iD:(w3.drewN nq).cell? ⟨w.heap.size+1,2,none⟩=some (.int .u16 P.seq):=y2;have k0':(w3.drewN nq).cell? ⟨w,0,none⟩=some (.slice (some ⟨ge,oe,none⟩) l.length ec):=k0;clear x0 x2 y2 k0 y11 v6 e2 HK WU;generalize w3.drewN nq=w4 at *
 obtain⟨v0,b2⟩:=HK4.o;go_upto_region 5 with fail
 go_quiet ((go_at_call 38;exact Calls.quiet_of_same ((CA.o _).mono fun e w' ⟨a,b⟩=>⟨a,b.symm⟩)))
 have P5:=Zh (below_drewN Va.o nq);go_wp2_with fail
 go_ret;exact⟨by rw[Mo.o];rfl,P5.o⟩
end
end Go.Proofs.By
namespace Go.Proofs.By
open Go.RowKit Go.Proofs.Heap Go.Proofs
open Go.Proofs.Rm (below_drewN YL)
structure SO(w w':World)(K:Nat)(z:tU)(o0 ov:Value):Prop where
 Zf:Below w w w'
 Y8:w'.heap[K]?=some (.cells #[o0,.int .i64 z.opn,.int .u32 z.begin,.int .u16 z.Uy] 162 (0,0))
 own:w'.ownsRow w 70 6 ov z.o.length (z.o.flatMap UO)
 ge:w.heap.size≤K
section
variable {w w1 w2:World} {K:Nat} {z:tU} {o0 ov:Value}
theorem SO.below(h:SO w w1 K z o0 ov)(hb:Below w1 w1 w2):SO w w2 K z o0 ov:=⟨h.Zf.trans (hb.mono h.Zf.size),(hb.block _ (ZX h.Y8)).trans h.Y8,Yv h.own hb,h.ge⟩
theorem SO.facts(h:SO w w1 K z o0 ov):w1.cell? ⟨K,0,none⟩=some o0∧w1.cell? ⟨K,1,none⟩=some (.int .i64 z.opn)∧w1.cell? ⟨K,2,none⟩=some (.int .u32 z.begin)∧w1.cell? ⟨K,3,none⟩=some (.int .u16 z.Uy):=
 ⟨Zc h.Y8 0 rfl,Zc h.Y8 1 rfl,Zc h.Y8 2 rfl,Zc h.Y8 3 rfl⟩
theorem SO.set(h:SO w w1 K z o0 ov)(o:Nat)(u:Value)(z':tU)(o0':Value)(hz:z'.o=z.o)(hs:[o0,.int .i64 z.opn,.int .u32 z.begin,.int .u16 z.Uy].set o u=[o0',.int .i64 z'.opn,.int .u32 z'.begin,.int .u16 z'.Uy]):SO w (w1.setCell ⟨K,o,none⟩ u) K z' o0' ov:=by
 have h2:=VH h.Y8 o u;rw[List.setIfInBounds_toArray,hs]at h2;refine⟨((Fr.Z6 Pz h.Zf).setCell (p:=⟨K,o,none⟩) (WO h.ge) _).below,h2,?_,h.ge⟩;rw[hz];refine XL h.own (fun i hi=>Mg w1 ⟨K,o,none⟩ u i (fun e=>?_));have e:i=K:=e;subst e;exact Y7 h.own Zd _ _ _ hi h.Y8
theorem SO.grow(h:SO w w1 K z o0 ov)(hg:w1.grownBy w2 ov.ownBlock){ov':Value}{l:List rJ}(ho:w2.ownsRow w 70 6 ov' l.length (l.flatMap UO)):SO w w2 K {z with o:=l} o0 ov':=
 ⟨((Fr.Z6 Pz h.Zf).grown hg h.Zf.size (YL h.own)).below,(hg.block _ (ZX h.Y8) (fun e=>Y7 h.own Zd _ _ _ e.symm h.Y8)).trans h.Y8,ho,h.ge⟩
end
theorem fW(e:rJ):∀u∈UO e,u.oneCell'=true:=by
 intro u hu;simp only[UO,J9,List.mem_nil_iff,or_false]at hu;rcases hu with rfl|rfl|rfl|rfl|rfl|rfl <;> rfl
section
variable {w:World} {V k:Nat} {ov av mv lv:Value} {L:List WE} {x:Zx} {wv cv qv:Value}
theorem OA(h:VB w V k ov av mv lv L x wv cv qv){j:Nat}(hj:j<L.length)(hL:L.length≤256){s:VS}(hs:bO w wv cv qv j s)(K:Nat)(z:tU)(uv:Value)(w1:World)(ou:SO w w1 K z uv uv)(We:E9 j z) :
  Calls prog 91 #[.pointer (some ⟨V,0,none⟩),.pointer (some ⟨K,0,none⟩),.int .i64 (j:Int)] w1 fun e w2=>e = .returned (.tuple #[])∧∃iZ,SO w w2 K (IC L x s z j) iZ iZ:=by
 obtain⟨g,o,c,a1,n1,c1,a2,n2,c2,a3,n3,c3,lO,hm⟩:=JC h hj;subst lO;have CN0:=Zh (fun(w':World) (hb:Below w w w')=>Tw (h.below hb) hj (hs.below hb));have HV:=Zh h.view;have wU:=Zh h.book;have jD:=Zh (fun(q:Nat) (hq:q<L.length)=>JC h hq);have HRDY:=Zh (zm We);have hlen:=We.len;have HX:Hid (IC L x s z j={QR z j (VK s (Z5 L j).Wx) (Z5 L j).Wx.start with o:=z.o++[fV L x (QR z j (VK s (Z5 L j).Wx) (Z5 L j).Wx.start) j (VK s (Z5 L j).Wx)]}):=rfl;have Cy:(j:Int)<(L.length:Int):=P6.2 hj;clear h hs We;generalize IC L x s z j=X at *
 obtain⟨xp,xs,xb,xf⟩:=x;dsimp only at HV;have HEM:Hid (∀r op,fV L ⟨xp,xs,xb,xf⟩ r j op=⟨j,IntKind.u16.wrap r.o.length,IntKind.u32.wrap (IntKind.u32.wrap ((Z5 L j).XQ.time-(Z5 L r.opn.toNat).XQ.time)+r.begin),W8 xp xs,IntKind.u16.wrap (r.Uy-1),op⟩):=fun _ _=>rfl
 generalize VK s (Z5 L j).Wx=op at *
 have Bc:w1.rangeAt g (o+j*15) (Qg (Z5 L j).XQ.Xw (Z5 L j).XQ.type (Z5 L j).XQ.seq (Z5 L j).XQ.time (Z5 L j).XQ.Yl a1 n1 c1 (Z5 L j).XQ.Xv (Z5 L j).XQ.X9 a2 n2 c2 a3 n3 c3 (Z5 L j).XQ.pad (Z5 L j).Wx.ZI (Z5 L j).Wx.key (Z5 L j).Wx.start (Z5 L j).Wx.frame):=fun m v hv=>ZG (hm m v hv) ou.Zf
 generalize(Z5 L j).XQ=P at *
 generalize(Z5 L j).Wx=D at *
 have hz:=Z9 w1 (.cells TL 97);have jQ:Hid (SO w ((w1.alloc (.cells TL 97)).setRow w1 (Jv P.Xw P.type P.seq P.time P.Yl a1 n1 c1 P.Xv P.X9 a2 n2 c2 a3 n3 c3 P.pad D)) K z uv uv):=ou.below (Z0 (Z' w1 _) (Zw _) _);have HT2:Hid (((w1.alloc (.cells TL 97)).setRow w1 (Jv P.Xw P.type P.seq P.time P.Yl a1 n1 c1 P.Xv P.X9 a2 n2 c2 a3 n3 c3 P.pad D)).heap[w1.heap.size]?=some (.cells (Jv P.Xw P.type P.seq P.time P.Yl a1 n1 c1 P.Xv P.X9 a2 n2 c2 a3 n3 c3 P.pad D) 97 (0,0))):=setRow_heap _ _ _ (Jv P.Xw P.type P.seq P.time P.Yl a1 n1 c1 P.Xv P.X9 a2 n2 c2 a3 n3 c3 P.pad D) _ _ hz;have v0:w1.cell? ⟨V,0,none⟩=some (.pointer (some ⟨k,0,none⟩)):=by rw[cell_of ((ou.Zf.block _ (ZX HV.o)).trans HV.o) 0];rfl
 have b2:w1.cell? ⟨k,2,none⟩=some (.slice (some ⟨g,o,none⟩) L.length c):=by rw[cell_of ((ou.Zf.block _ (ZX wU.o)).trans wU.o) 2];rfl
 clear hm ou;go_enter func91,ntmps91;go_upto_region 1 with(first|(with_reducible refine Zm Bc underlying97 ?_)|(with_reducible refine Zs (cells:=(Jv P.Xw P.type P.seq P.time P.Yl a1 n1 c1 P.Xv P.X9 a2 n2 c2 a3 n3 c3 P.pad D)) hz ?_))
 clear hz Bc v0 b2;generalize((w1.alloc (.cells TL 97)).setRow w1 (Jv P.Xw P.type P.seq P.time P.Yl a1 n1 c1 P.Xv P.X9 a2 n2 c2 a3 n3 c3 P.pad D))=w2 at *
 generalize w1.heap.size=T at *
 obtain⟨out,opn,fR,st0⟩:=z;obtain⟨ua,uc,rfl⟩:=Row.form (Row.Z4 jQ.o.own);dsimp only at HX HRDY hlen jQ;have CN:=Zh (CN0.o w2 jQ.o.Zf);clear CN0;go_upto_if 22 with(go_at_call 89;refine CN.o.mono ?_;rintro e w3 ⟨rfl,WT⟩;have Aw:=Zh (jQ.o.below WT);have iL:Hid (w3.heap[T]?=some (.cells (Jv P.Xw P.type P.seq P.time P.Yl a1 n1 c1 P.Xv P.X9 a2 n2 c2 a3 n3 c3 P.pad D) 97 (0,0))):=(WT.block _ (ZX HT2.o)).trans HT2.o;clear WT jQ HT2)
 go_cut [] (fun wx=>SO w wx K ⟨out,if op then j else opn,if op then(if 0<out.length then IntKind.u32.wrap ((NL out).time+3000)else fR)else fR,st0⟩ (.slice ua out.length uc) (.slice ua out.length uc)∧wx.heap[T]?=some (.cells (Jv P.Xw P.type P.seq P.time P.Yl a1 n1 c1 P.Xv P.X9 a2 n2 c2 a3 n3 c3 P.pad D) 97 (0,0)))
 case first=>
  cases op with
  | false=>
   go_wp2_with fail
   go_meet;exact⟨Aw.o,iL.o⟩
  | true=>
   obtain⟨u0,u1,u2,u3⟩:=Aw.o.facts;have f1:=ZP Aw.o.Y8 1;have f2:=ZP Aw.o.Y8 2
   have hKT:T≠K:=fun e=>by
    have h1:=iL.o;rw[e,Aw.o.Y8]at h1;injection h1 with h1
    injection h1 with _ h1
    exact absurd h1 Zd
   by_cases hl:0<out.length
   ·obtain⟨m,hm⟩:∃m,out.length=m+1:=⟨out.length-1,Zo⟩;obtain⟨ge,oe,gL,-,x2⟩:=kQ (m:=m) (Row.Z4 Aw.o.own) (by show m<out.length;omega);subst gL;have HLA:Hid (NL out=out.getD m KL):=by show _=_;unfold NL;rw[hm];rfl
    have iX:IntKind.i64.wrap ((out.length:Int)-1)=(m:Int):=by rw[Te _ Zo];omega
    have lL:(m:Int)<(out.length:Int):=by omega
    have hmN:m<out.length:=by omega
    have dl:decide (0<(out.length:Int))=true:=Ww Zo;have hl1:((out.length:Int)-1)=(m:Int):=by omega
    have HH:Hid (0<out.length):=hl;dsimp only at x2;generalize out.getD m KL=E at *
    clear hm hl;go_wp2_with fail
    go_meet;rw[ZU trivial,ZU trivial,ZU HH.o,HLA.o,Np];exact⟨(Aw.o.set 1 (.int .i64 (j:Int)) ⟨out,j,fR,st0⟩ _ rfl rfl).set 2 _ ⟨out,j,(E.time+3000)%4294967296,st0⟩ _ rfl rfl,(Mg _ ⟨K,2,none⟩ _ T hKT).trans ((Mg _ ⟨K,1,none⟩ _ T hKT).trans iL.o)⟩
   ·have dl:decide (0<(out.length:Int))=false:=Wz Zo;have dl2:decide (0<out.length)=false:=Wz hl;have HH:Hid (¬0<out.length):=hl;clear hl;go_wp2_with fail
    go_meet;rw[ZU trivial,ZU trivial,Z3 HH.o];exact⟨Aw.o.set 1 (.int .i64 (j:Int)) ⟨out,j,fR,st0⟩ _ rfl rfl,(Mg _ ⟨K,1,none⟩ _ T hKT).trans iL.o⟩
 case rest=>
  obtain⟨w4,rfl⟩:∃W:World,W=wc:=⟨_,rfl⟩;have oW:=Zh hcut.1;have HT4:=Zh hcut.2;clear hcut Aw iL;have hrd:=(HRDY.o op D.start).1;have HXR:Hid (∀st,QR ⟨out,opn,fR,st0⟩ j op st=⟨out,if op then j else opn,if op then(if 0<out.length then IntKind.u32.wrap ((NL out).time+3000)else fR)else fR,if st then IntKind.u16.wrap (st0+1)else st0⟩):=fun _=>rfl
  rw[HXR.o]at hrd;dsimp only at hrd;generalize(if op then(if 0<out.length then IntKind.u32.wrap ((NL out).time+3000)else fR)else fR)=bg at *
  generalize hq:(if op then(j:Int)else opn)=oq at *
  obtain⟨q,rfl⟩:∃q:Nat,oq=(q:Int):=⟨oq.toNat,Zo⟩;have hqL:q<L.length:=by omega
  clear hrd HRDY hq;have y13:w4.cell? ⟨T,13,none⟩=some (.bool D.start):=Zc HT4.o 13 rfl;go_upto_if 50 with fail
  clear y13;go_cut [] (fun wx=>SO w wx K ⟨out,q,bg,if D.start then IntKind.u16.wrap (st0+1)else st0⟩ (.slice ua out.length uc) (.slice ua out.length uc)∧wx.heap[T]?=some (.cells (Jv P.Xw P.type P.seq P.time P.Yl a1 n1 c1 P.Xv P.X9 a2 n2 c2 a3 n3 c3 P.pad D) 97 (0,0)))
  case first=>
   have hKT:T≠K:=fun e=>by
    have h1:=HT4.o;rw[e,oW.o.Y8]at h1;injection h1 with h1
    injection h1 with _ h1
    exact absurd h1 Zd
   obtain⟨u0,u1,u2,u3⟩:=oW.o.facts;have f3:=ZP oW.o.Y8 3;dsimp only at u3;obtain⟨dly,dke,dst,dfm⟩:=D;cases dst with
   | false=>
    go_wp2_with fail
    go_meet;exact⟨oW.o,HT4.o⟩
   | true=>
    go_wp2_with fail
    go_meet;rw[ZU trivial];exact⟨oW.o.set 3 _ ⟨out,q,bg,IntKind.u16.wrap (st0+1)⟩ _ rfl rfl,(Mg _ ⟨K,3,none⟩ _ T hKT).trans HT4.o⟩
  case rest=>
   obtain⟨w5,rfl⟩:∃W:World,W=wc:=⟨_,rfl⟩;have xD:=Zh (hcut.1.below (YI _ _).drew);have HT5:Hid (w5.drew.heap[T]?=some (.cells (Jv P.Xw P.type P.seq P.time P.Yl a1 n1 c1 P.Xv P.X9 a2 n2 c2 a3 n3 c3 P.pad D) 97 (0,0))):=hcut.2;clear hcut oW HT4;have HXF:Hid (X=⟨out++[fV L ⟨xp,xs,xb,xf⟩ ⟨out,q,bg,if D.start then IntKind.u16.wrap (st0+1)else st0⟩ j op],q,bg,if D.start then IntKind.u16.wrap (st0+1)else st0⟩):=by show _=_;rw[HX.o,HXR.o]
   rw[HEM.o]at HXF;generalize(if D.start then IntKind.u16.wrap (st0+1)else st0)=oz at *
   dsimp only at HXF;rw[Wl]at HXF;obtain⟨g',o',c',b1,r1,s1,b2',r2,s2,b3,r3,s3,lH,hmq⟩:=jD.o q hqL;cases lH;have HTQ:Hid (w.cell? ⟨g,o+q*15+3,none⟩=some (.int .u32 (Z5 L q).XQ.time)):=Pc hmq 3 rfl;generalize(Z5 L q).XQ=PQ at *
   clear HX HXR HEM hmq jD;have hqI:(q:Int)<(L.length:Int):=P6.2 hqL
   have FACTS:Hid (∀w',SO w w' K ⟨out,q,bg,oz⟩ (.slice ua out.length uc) (.slice ua out.length uc)→w'.heap[T]?=some (.cells (Jv P.Xw P.type P.seq P.time P.Yl a1 n1 c1 P.Xv P.X9 a2 n2 c2 a3 n3 c3 P.pad D) 97 (0,0))→w'.cell? ⟨K,0,none⟩=some (.slice ua out.length uc)∧w'.cell? ⟨K,1,none⟩=some (.int .i64 (q:Int))∧w'.cell? ⟨K,2,none⟩=some (.int .u32 bg)∧w'.cell? ⟨K,3,none⟩=some (.int .u16 oz)∧w'.cell? ⟨T,3,none⟩=some (.int .u32 P.time)∧w'.cell? ⟨V,0,none⟩=some (.pointer (some ⟨k,0,none⟩))∧w'.cell? ⟨V,1,none⟩=some (.int .i64 xp)∧w'.cell? ⟨V,2,none⟩=some (.int .i64 xs)∧w'.cell? ⟨k,2,none⟩=some (.slice (some ⟨g,o,none⟩) L.length c)∧w'.cell? ⟨g,o+q*15+3,none⟩=some (.int .u32 PQ.time)):=fun w' h1 h2=>
    ⟨h1.facts.1,h1.facts.2.1,h1.facts.2.2.1,h1.facts.2.2.2,Zc h2 3 rfl,by rw[cell_of ((h1.Zf.block _ (ZX HV.o)).trans HV.o) 0];rfl,by rw[cell_of ((h1.Zf.block _ (ZX HV.o)).trans HV.o) 1];rfl,by rw[cell_of ((h1.Zf.block _ (ZX HV.o)).trans HV.o) 2];rfl,by rw[cell_of ((h1.Zf.block _ (ZX wU.o)).trans wU.o) 2];rfl,ZG HTQ.o h1.Zf⟩
   have CO:=Zh (Gj xp xs w5.drew);go_upto_region 9 with fail
   refine R5 ?_;refine Z_.Zj (d:=56) (S:=(fun w'=>w'.cell? ⟨K,0,none⟩=some (.slice ua out.length uc)∧w'.cell? ⟨K,1,none⟩=some (.int .i64 (q:Int))∧w'.cell? ⟨K,2,none⟩=some (.int .u32 bg)∧w'.cell? ⟨K,3,none⟩=some (.int .u16 oz)∧w'.cell? ⟨T,3,none⟩=some (.int .u32 P.time)∧w'.cell? ⟨V,0,none⟩=some (.pointer (some ⟨k,0,none⟩))∧w'.cell? ⟨V,1,none⟩=some (.int .i64 xp)∧w'.cell? ⟨V,2,none⟩=some (.int .i64 xs)∧w'.cell? ⟨k,2,none⟩=some (.slice (some ⟨g,o,none⟩) L.length c)∧w'.cell? ⟨g,o+q*15+3,none⟩=some (.int .u32 PQ.time))) X_ ?_ (fun _=>?_)
   ·exact FACTS.o _ xD.o HT5.o
   refine YP 0 (h:=YP 1 (h:=YP 2 (h:=YP 3 (h:=YP 5 (h:=YP 6 (h:=YP 7 (h:=YP 8 (h:=YP 9 (h:=YP 13 (h:=YP 14 (h:=YP 16 (h:=YP 17 (h:=YP 18 (h:=YP 23 (h:=YP 24 (h:=YP 25 (h:=YP 32 (h:=YP 33 (h:=YP 34 (h:=YP 37 (h:=YP 38 (h:=YP 39 (h:=YP 40 (h:=YP 42 (h:=YP 43 (h:=YP 44 (h:=YP 45 (h:=YP 48 (h:=YP 49 (h:=YP 50 (h:=YK 4 (h:=YK 10 (h:=YP 11 (h:=YP 12 (h:=YK 15 (h:=YK 19 (h:=YP 20 (h:=YP 21 (h:=YK 22 (h:=YK 26 (h:=YP 27 (h:=YP 28 (h:=YP 29 (h:=YK 30 (h:=YP 31 (h:=YK 35 (h:=YP 36 (h:=YK 41 (h:=YK 46 (h:=YK 51 (h:=YP 52 (h:=?_))))))))))))))))))))))))))))))))))))))))))))))))))));refine YR 47 (h:=fun K hK=>?_);go_simp;refine CO.o.mono ?_;rintro e w' ⟨rfl,rfl⟩;go_wp2_with fail
   refine Z_.Y9 hK _ _ ?_ (fun _=>?_)
   ·exact FACTS.o _ xD.o HT5.o
   clear hK K;try simp only[Z_.pt]
   refine YP 53 (h:=YP 54 (h:=?_));refine YR 55 (h:=fun K hK=>?_);refine Xe Zr r8 (.tmp 112) Zr (Q8 (j:Int) (IntKind.u16.wrap (out.length:Int)) (IntKind.u32.wrap (IntKind.u32.wrap (P.time-PQ.time)+bg)) (W8 xp xs) (IntKind.u16.wrap (oz-1)) op) Zr Zr Zd ?_;have HR:Hid (Row (w5.drew.alloc (.cells (Q8 (j:Int) (IntKind.u16.wrap (out.length:Int)) (IntKind.u32.wrap (IntKind.u32.wrap (P.time-PQ.time)+bg)) (W8 xp xs) (IntKind.u16.wrap (oz-1)) op) 70)) 70 (.slice (some ⟨w5.drew.heap.size,0,none⟩) 1 1) 1 (Q8 (j:Int) (IntKind.u16.wrap (out.length:Int)) (IntKind.u32.wrap (IntKind.u32.wrap (P.time-PQ.time)+bg)) (W8 xp xs) (IntKind.u16.wrap (oz-1)) op)):=VA w5.drew 70 1 (Q8 (j:Int) (IntKind.u16.wrap (out.length:Int)) (IntKind.u32.wrap (IntKind.u32.wrap (P.time-PQ.time)+bg)) (W8 xp xs) (IntKind.u16.wrap (oz-1)) op) Zd;have U8:=Z' w5.drew (.cells (Q8 (j:Int) (IntKind.u16.wrap (out.length:Int)) (IntKind.u32.wrap (IntKind.u32.wrap (P.time-PQ.time)+bg)) (W8 xp xs) (IntKind.u16.wrap (oz-1)) op) 70);have xD:=Zh (xD.o.below U8);have HT5:=Zh ((U8.block _ (ZX HT5.o)).trans HT5.o);clear U8;refine Z_.Y9 hK _ _ ?_ (fun _=>?_)
   ·exact FACTS.o _ xD.o HT5.o
   clear hK K;try simp only[Z_.pt]
   refine YR 56 (h:=fun K hK=>?_);refine Ze Zr (.tmp 62) (.tmp 113) 61 Zr w r8 (.slice ua out.length uc) out.length (out.flatMap UO) Zr xD.o.own _ 1 (Q8 (j:Int) (IntKind.u16.wrap (out.length:Int)) (IntKind.u32.wrap (IntKind.u32.wrap (P.time-PQ.time)+bg)) (W8 xp xs) (IntKind.u16.wrap (oz-1)) op) Zr HR.o rfl (fW ⟨(j:Int),IntKind.u16.wrap (out.length:Int),IntKind.u32.wrap (IntKind.u32.wrap (P.time-PQ.time)+bg),W8 xp xs,IntKind.u16.wrap (oz-1),op⟩) Zo Zo xD.o.Zf.size ?_;intro v6 w6 Hq xd;have iE:Hid (w6.ownsRow w 70 6 v6 (out++[(⟨j,IntKind.u16.wrap out.length,IntKind.u32.wrap (IntKind.u32.wrap (P.time-PQ.time)+bg),W8 xp xs,IntKind.u16.wrap (oz-1),op⟩:rJ)]).length ((out++[(⟨j,IntKind.u16.wrap out.length,IntKind.u32.wrap (IntKind.u32.wrap (P.time-PQ.time)+bg),W8 xp xs,IntKind.u16.wrap (oz-1),op⟩:rJ)]).flatMap UO)):=(by rw[UG,OD];exact Hq.o);have HSO6:=Zh (xD.o.grow xd.o iE.o);obtain⟨na,nc,Nr⟩:∃a c,v6 = .slice a (out.length+1) c:=by obtain⟨a,c,h⟩:=Row.form (Row.Z4 iE.o);exact⟨a,c,by rw[h,UG];rfl⟩
   subst Nr;obtain⟨u0,u1,u2,u3⟩:=HSO6.o.facts;have f0:=ZP HSO6.o.Y8 0;refine Z_.Yf hK _ _ X_ ?_;clear hK K;try simp only[Z_.pt]
   refine YP 57 (h:=YP 58 (h:=?_));refine YR 59 (h:=fun K hK=>?_);go_simp;have HSO7:=Zh (HSO6.o.set 0 (.slice na (out.length+1) nc) _ (.slice na (out.length+1) nc) rfl rfl);refine Z_.Yf hK _ _ X_ ?_;clear hK K;try simp only[Z_.pt]
   refine Z_.Yx X_ ?_ _;refine QZ ?_;go_wp2_with fail
   first|refine bodyPost_end (results_none Zr _ _ _) rfl ?_|refine VD (v:= .tuple #[]) (results_none Zr _ _ _) rfl ?_
   exact⟨rfl,_,by rw[HXF.o];exact HSO7.o⟩
end
theorem po(w:World):Calls prog 56 #[.pointer none] w fun e w'=>e = .returned (.slice none 0 0)∧w=w':=by
 go_enter func56,ntmps56;go_wp2_with fail
 go_ret;exact⟨rfl,rfl⟩
section
variable {w:World} {V k:Nat} {ov av mv lv:Value} {L:List WE} {x:Zx} {wv cv qv:Value}
theorem pj(h:VB w V k ov av mv lv L x wv cv qv)(hr:Oy w wv cv qv (WL L x (L.length+1)))(hL:L.length≤256) :
  Calls prog 56 #[.pointer (some ⟨V,0,none⟩)] w fun e w'=>(∃ev,e = .returned ev∧w'.ownsRow w 70 6 ev (QV L x L.length).o.length ((QV L x L.length).o.flatMap UO))∧Below w w w':=by
 have Hf:=Zh h;have HVR:=Zh hr;obtain⟨oa,oc,hov,-,-⟩:=h.ops.form;subst hov;have E3:Hid (SO w (w.alloc (.cells (Qx none 0 0 0 0 0) 162)) w (QV L x 0) (.slice none 0 0) (.slice none 0 0)):=⟨Z' w _,Z9 w _,TV _ _ _ _,Zw _⟩;have hVl:=ZX h.view;have VM:=ZX h.book;have v0:w.cell? ⟨V,0,none⟩=some (.pointer (some ⟨k,0,none⟩)):=Zc h.view 0 rfl;have b0:w.cell? ⟨k,0,none⟩=some (.slice oa L.length oc):=Zc h.book 0 rfl;clear h hr;go_enter func56,ntmps56;go_wp2_with fail
 clear v0 b0 hVl VM;generalize w.alloc (.cells (Qx none 0 0 0 0 0) 162)=w0 at *
 go_loopw [15] (fun s15 w'=>∃(j:Nat) (uv:Value),j≤L.length∧s15 = .int .i64 (j:Int)∧SO w w' w (QV L x j) uv uv) (fun s15 _=>L.length-(intOf s15).toNat)
 case atStart=>exact⟨0,_,Zo,rfl,E3.o⟩
 case round=>
  obtain⟨j,uv,hj,rfl,ou⟩:=hrel;clear E3;have jP:=Zh ou;clear ou;by_cases RN:j<L.length
  ·have Cy:(j:Int)<(L.length:Int):=P6.2 RN;have Px:=Zh (DI L x j);have Ax:Hid (QV L x (j+1)=Pe L x (ZC L x j) (QV L x j) j):=rfl;have He:=Zh (HVR.o.at (QW L x (Nat.lt_succ_of_lt RN)));generalize QV L x j=z at *
   generalize ZC L x j=s at *
   have hzl:z.o.length≤1000:=by have:=Px.o.len;omega
   have zW:Hid (∀e∈z.o,0≤e.event∧e.event<L.length):=fun e he=>by have:=Px.o.ev e he;omega
   obtain⟨ua,uc,rfl⟩:=Row.form (Row.Z4 jP.o.own);obtain⟨gq,oq,mq,cq,hqv,hjq,hqc⟩:=He.o.quiet;have HQC:=Zh hqc;have hjqI:(j:Int)<(mq:Int):=P6.2 hjq;subst hqv;have CP:=Zh (Hy (Hf.o.below jP.o.Zf) RN);have xG:Hid (Pe L x s z j=if XU L x j && !s.quiet&&(VK s (Z5 L j).Wx||Cn L s z.o j)then IC L x s z j else z):=rfl;generalize hS:Pe L x s z j=ZZ at *
   have rR:=Zh hS;clear hS hqc;generalize Ab:VK s (Z5 L j).Wx=op at *
   have HOP:=Zh Ab;generalize lH:Cn L s z.o j=go at *
   have HGO:=Zh lH;generalize XU L x j=pk at *
   generalize s.quiet=qt at *
   clear Ab lH;cases pk with
   | false=>
    have HX:Hid (ZZ=z):=by show _=_;rw[xG.o];rfl
    go_wp2_with (go_at_call 88;refine CP.o.mono ?_;rintro e w2 ⟨rfl,Zb⟩;have PV:=Zh (jP.o.below Zb);have q7:w2.cell? ⟨V,7,none⟩=some (.slice (some ⟨gq,oq,none⟩) mq cq):=(by rw[cell_of (Hf.o.below PV.o.Zf).view 7];rfl);have qc:w2.cell? ⟨gq,oq+j,none⟩=some (.bool qt):=ZG HQC.o PV.o.Zf;have CN:=Zh (Tw (Hf.o.below PV.o.Zf) RN (He.o.below PV.o.Zf));rw[HOP.o]at CN;clear Zb)
    go_roundw
    case rel=>exact⟨j+1,_,Zo,Zn,by rw[Ax.o,HX.o];exact PV.o⟩
    case measure=>simp[intOf];omega
   | true=>
   cases qt with
   | true=>
    have HX:Hid (ZZ=z):=by show _=_;rw[xG.o];rfl
    go_wp2_with (go_at_call 88;refine CP.o.mono ?_;rintro e w2 ⟨rfl,Zb⟩;have PV:=Zh (jP.o.below Zb);have q7:w2.cell? ⟨V,7,none⟩=some (.slice (some ⟨gq,oq,none⟩) mq cq):=(by rw[cell_of (Hf.o.below PV.o.Zf).view 7];rfl);have qc:w2.cell? ⟨gq,oq+j,none⟩=some (.bool true):=ZG HQC.o PV.o.Zf;have CN:=Zh (Tw (Hf.o.below PV.o.Zf) RN (He.o.below PV.o.Zf));rw[HOP.o]at CN;clear Zb)
    go_roundw
    case rel=>exact⟨j+1,_,Zo,Zn,by rw[Ax.o,HX.o];exact PV.o⟩
    case measure=>simp[intOf];omega
   | false=>
   cases op with
   | true=>
    have HX:Hid (ZZ=IC L x s z j):=by show _=_;rw[xG.o];rfl
    go_wp2_with (first|(go_at_call 88;refine CP.o.mono ?_;rintro e w2 ⟨rfl,Zb⟩;have PV:=Zh (jP.o.below Zb);have q7:w2.cell? ⟨V,7,none⟩=some (.slice (some ⟨gq,oq,none⟩) mq cq):=(by rw[cell_of (Hf.o.below PV.o.Zf).view 7];rfl);have qc:w2.cell? ⟨gq,oq+j,none⟩=some (.bool false):=ZG HQC.o PV.o.Zf;have CN:=Zh (Tw (Hf.o.below PV.o.Zf) RN (He.o.below PV.o.Zf));rw[HOP.o]at CN;clear Zb)|(go_at_call 89;refine CN.o.mono ?_;rintro e w3 ⟨rfl,WT⟩;have E4:=Zh (PV.o.below WT);obtain⟨e0,e1,e2,e3⟩:=E4.o.facts;have CG:=Zh (IU (Hf.o.below E4.o.Zf) RN (He.o.below E4.o.Zf) ua uc z.o z.opn z.begin z.Uy (Row.Z4 E4.o.own) zW.o hzl);rw[HGO.o]at CG;have CSE:=Zh (OA Hf.o RN hL He.o w z _ w3 E4.o Px.o);clear WT)|(go_at_call 91;refine CSE.o.mono ?_;rintro e w5 ⟨rfl,iZ,mb⟩;have HS5:=Zh mb;clear mb))
    go_roundw
    case rel=>exact⟨j+1,_,Zo,Zn,by rw[Ax.o,HX.o];exact HS5.o⟩
    case measure=>simp[intOf];omega
   | false=>
   cases go with
   | true=>
    have HX:Hid (ZZ=IC L x s z j):=by show _=_;rw[xG.o];rfl
    go_wp2_with (first|(go_at_call 88;refine CP.o.mono ?_;rintro e w2 ⟨rfl,Zb⟩;have PV:=Zh (jP.o.below Zb);have q7:w2.cell? ⟨V,7,none⟩=some (.slice (some ⟨gq,oq,none⟩) mq cq):=(by rw[cell_of (Hf.o.below PV.o.Zf).view 7];rfl);have qc:w2.cell? ⟨gq,oq+j,none⟩=some (.bool false):=ZG HQC.o PV.o.Zf;have CN:=Zh (Tw (Hf.o.below PV.o.Zf) RN (He.o.below PV.o.Zf));rw[HOP.o]at CN;clear Zb)|(go_at_call 89;refine CN.o.mono ?_;rintro e w3 ⟨rfl,WT⟩;have E4:=Zh (PV.o.below WT);obtain⟨e0,e1,e2,e3⟩:=E4.o.facts;have CG:=Zh (IU (Hf.o.below E4.o.Zf) RN (He.o.below E4.o.Zf) ua uc z.o z.opn z.begin z.Uy (Row.Z4 E4.o.own) zW.o hzl);rw[HGO.o]at CG;have CSE:=Zh (OA Hf.o RN hL He.o w z _ w3 E4.o Px.o);clear WT)|(go_at_call 90;refine CG.o.mono ?_;rintro e w4 ⟨rfl,TW⟩;have HS4:=Zh (E4.o.below TW);clear CSE;have CSE:=Zh (OA Hf.o RN hL He.o w z _ w4 HS4.o Px.o);clear TW)|(go_at_call 91;refine CSE.o.mono ?_;rintro e w5 ⟨rfl,iZ,mb⟩;have HS5:=Zh mb;clear mb))
    go_roundw
    case rel=>exact⟨j+1,_,Zo,Zn,by rw[Ax.o,HX.o];exact HS5.o⟩
    case measure=>simp[intOf];omega
   | false=>
    have HX:Hid (ZZ=z):=by show _=_;rw[xG.o];rfl
    go_wp2_with (first|(go_at_call 88;refine CP.o.mono ?_;rintro e w2 ⟨rfl,Zb⟩;have PV:=Zh (jP.o.below Zb);have q7:w2.cell? ⟨V,7,none⟩=some (.slice (some ⟨gq,oq,none⟩) mq cq):=(by rw[cell_of (Hf.o.below PV.o.Zf).view 7];rfl);have qc:w2.cell? ⟨gq,oq+j,none⟩=some (.bool false):=ZG HQC.o PV.o.Zf;have CN:=Zh (Tw (Hf.o.below PV.o.Zf) RN (He.o.below PV.o.Zf));rw[HOP.o]at CN;clear Zb)|(go_at_call 89;refine CN.o.mono ?_;rintro e w3 ⟨rfl,WT⟩;have E4:=Zh (PV.o.below WT);obtain⟨e0,e1,e2,e3⟩:=E4.o.facts;have CG:=Zh (IU (Hf.o.below E4.o.Zf) RN (He.o.below E4.o.Zf) ua uc z.o z.opn z.begin z.Uy (Row.Z4 E4.o.own) zW.o hzl);rw[HGO.o]at CG;have CSE:=Zh (OA Hf.o RN hL He.o w z _ w3 E4.o Px.o);clear WT)|(go_at_call 90;refine CG.o.mono ?_;rintro e w4 ⟨rfl,TW⟩;have HS4:=Zh (E4.o.below TW);clear CSE;have CSE:=Zh (OA Hf.o RN hL He.o w z _ w4 HS4.o Px.o);clear TW))
    go_roundw
    case rel=>exact⟨j+1,_,Zo,Zn,by rw[Ax.o,HX.o];exact HS4.o⟩
    case measure=>simp[intOf];omega
  ·have Mi:j=L.length:=by omega
   subst Mi;obtain⟨ua,uc,rfl⟩:=Row.form (Row.Z4 jP.o.own);obtain⟨u0,u1,u2,u3⟩:=jP.o.facts;clear RN;go_wp2_with fail
   go_ret;exact⟨⟨_,rfl,jP.o.own⟩,jP.o.Zf⟩
end
end Go.Proofs.By
namespace Go.Proofs.By
open Go.RowKit Go.Proofs.Heap Go.Proofs
open Go.Proofs.ND (Xu)
open Go.Proofs.Mem
theorem xI(v:Value)(L:List WE)(w:World)(hT:Xu w)(h:WY w v L)(hL:L.length≤256) :
  Calls prog 24 #[v] w fun e w'=>(∃av,e = .returned av∧Row w' 35 av L.length ((XZ L L.length).flatMap VE))∧Below w w w':=by
 exact Yx71
theorem qN{w:World}{b b':Nat}{e:TypeId}{size:Nat}{v:Value}{n:Nat}{xs:List Value}(h:w.ownsRow b e size v n xs)(hb:b'≤b):w.ownsRow b' e size v n xs:=by
 obtain⟨h1,h2⟩:=h;refine⟨h1,?_⟩;rcases h2 with h2|⟨g,cap,cur,hv,hg,r⟩
 ·exact WO h2
 ·exact WB ⟨g,cap,cur,hv,PX hb hg,r⟩
def QU(L:List WE)(x:Zx):List rJ:=if x∈Zu L L.length L.length then(QV L x L.length).o else[]
theorem tS(v:Value)(L:List WE)(x:Zx)(w:World)(hT:Xu w)(h:WY w v L)(hL:L.length≤256) :
  Calls prog 29 #[v,.agg (Z8 x).toArray] w fun e w'=>(∃ev,e = .returned ev∧w'.ownsRow w 70 6 ev (QU L x).length ((QU L x).flatMap UO))∧Below w w w':=by
 have Tu:Hid (Below w w (w.alloc (.cells (Z8 x).toArray 59))):=Z' w _;have hz:(w.alloc (.cells (Z8 x).toArray 59)).heap[w.heap.size]?=some (.cells (Z8 x).toArray 59 (0,0)):=Z9 w _;by_cases hx:x∈Zu L L.length L.length
 ·have CV:=Zh (NQ v L x (w.alloc (.cells (Z8 x).toArray 59)) (Utf8Tabs_below hT Tu.o) (h.below Tu.o) hL hx);have HX:Hid (QU L x=(QV L x L.length).o):=by show _=_;unfold QU;rw[ZU hx]
  have HL:=Zh hL;generalize QU L x=X at *
  clear hx hT h hL;obtain⟨p,sr,b,f⟩:=x;dsimp only[Z8]at CV Tu hz ⊢;go_enter func29,ntmps29;go_wp2_with (first|(with_reducible refine Zl hz underlying59 ?_)|(go_at_call 55;refine CV.o.mono ?_;rintro e w2 ⟨⟨V,k,ov,av,mv,lv,wv,cv,qv,rfl,sG,sH⟩,Zb⟩;have Yg:=Zh (Tr Tu Zb);have CW:=Zh (pj sG sH HL.o);clear sG sH Zb)|(go_at_call 56;refine CW.o.mono ?_;rintro e w3 ⟨⟨ev,rfl,Kt⟩,WT⟩;have zW:=Zh Kt;have WU:=Zh (Tr Yg WT);clear Kt WT))
  go_ret;exact⟨⟨ev,rfl,by rw[HX.o];exact qN zW.o Yg.o.size⟩,WU.o⟩
 ·have CV:=Zh (NN v L x (w.alloc (.cells (Z8 x).toArray 59)) (Utf8Tabs_below hT Tu.o) (h.below Tu.o) hL hx);have HX:Hid (QU L x=[]):=by show _=_;unfold QU;rw[Z3 hx]
  generalize QU L x=X at *
  clear hx hT h hL;obtain⟨p,sr,b,f⟩:=x;dsimp only[Z8]at CV Tu hz ⊢;go_enter func29,ntmps29;go_wp2_with (first|(with_reducible refine Zl hz underlying59 ?_)|(go_at_call 55;refine CV.o.mono ?_;rintro e w2 ⟨rfl,Zb⟩;have Yg:=Zh (Tr Tu Zb);have CW:=Zh (po w2);clear Zb)|(go_at_call 56;refine CW.o.mono ?_;rintro e w' ⟨rfl,rfl⟩))
  go_ret;exact⟨⟨_,rfl,by rw[HX.o];exact TV _ _ _ _⟩,Yg.o⟩
theorem o_(v:Value)(L:List WE)(x:Zx)(w:World)(hT:Xu w)(h:WY w v L)(hL:L.length≤256) :
  Calls prog 29 #[v,.agg (Z8 x).toArray] w fun e w'=>(∃ev,e = .returned ev∧Row w' 70 ev (QU L x).length ((QU L x).flatMap UO))∧Below w w w':=
 (tS v L x w hT h hL).mono fun e w' ⟨⟨ev,h1,h2⟩,h3⟩=>⟨⟨ev,h1,Row.Z4 h2⟩,h3⟩
open Go.Proofs.Rm (WG)
theorem yg{L:List WE}{k:Nat}(h:(Z5 L k).XX.kind=1):(MQ L k).ds=(Z5 L k).Wx∧(MQ L k).pk=(Z5 L k).XQ:=by
 unfold Z5 at h ⊢;unfold MQ;cases hy:L[k]? with
 | none=>rw[hy]at h;exact absurd h (by show¬(0:Int)=1;decide)
 | some y=>
  rw[hy]at h;dsimp only at h ⊢;unfold take at h ⊢;by_cases k1:y.x.o.kind=1
  ·rw[ZU k1]at h ⊢;unfold uq;rw[ZU k1];unfold YJ at h ⊢;by_cases h1:(XY y.b).2≠0
   ·rw[ZU h1]at h;exact absurd h (by show¬(3:Int)=1;decide)
   rw[Z3 h1]at h ⊢;split at h
   ·exact absurd h (by show¬(4:Int)=1;decide)
   rename_i h2
   rw[Z3 h2];cases hv:(XY y.b).1 with
   | none=>rw[hv]at h;exact absurd h (by show¬(2:Int)=1;decide)
   | Yb l=>rw[hv]at h;exact absurd h (by show¬(2:Int)=1;decide)
   | XT p d=>
    rw[hv]at h;dsimp only at h ⊢;unfold VW at h ⊢;split at h
    ·rename_i h3;rw[ZU h3];exact⟨rfl,rfl⟩
    ·exact absurd h (by show¬(5:Int)=1;decide)
  ·rw[Z3 k1]at h;split at h
   ·exact absurd h (by show¬(6:Int)=1;decide)
   ·exact absurd h (by show¬(2:Int)=1;decide)
end Go.Proofs.By
