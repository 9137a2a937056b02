/- Part of a proof. -/
import Derived.Test.YtpdjhlcbcomdkaaGreatDoorT09
set_option linter.unusedVariables false
set_option linter.unusedSimpArgs false
set_option maxRecDepth 100000
set_option maxHeartbeats 16000000
open Go Go.Q Go.Qr Go.Proofs.Tryz
namespace Go.Proofs.By
open Go.RowKit Go.Proofs.Heap
theorem iu{base:Nat}{e:TypeId}{size:Nat}{v:Value}{n:Nat}{xs:List Value}{w:World}(h:w.ownsRow base e size v n xs):∀k,v.ownBlock=some k→k<w.heap.size:=by
 intro k hk;obtain⟨_,h⟩:=h;rcases h with⟨rfl,_⟩|⟨g,cap,cur,rfl,hg,hh,_⟩
 ·cases hk
 ·have hk:some g=some k:=hk;cases hk;exact sA hh
theorem Bz(v:Value)(b:List UInt8)(w:World)(hv:X5 w v b)(h0:(right b).2=0) :
  Calls prog 170 #[v] w fun e w'=>(∃a,e = .returned (.tuple #[a,.int .i64 (XV b).1.2,.int .i64 (XV b).2])∧S4 w' a (XV b).1.1)∧Below w w w':=by
 have HX:Hid (XV b=((report b,(right b).1),0)):=by show _=_;unfold XV;rw[Z3 (by simp[h0])]
 have C:=fun w1 h=>DD v b w1 (hv.below (h:Below w w w1))
 have HC:=Zh C;have HV:Hid (∀w',Below w w w'→X5 w' v b):=fun w' h=>hv.below h
 have hb4':=(Gg h0).1;obtain⟨g,off,c,rfl,RV,yD,WX⟩:=RI hv Zo;clear C hv;obtain⟨TW,hk,h15,-,hlen⟩:=Gg h0;generalize XV b=X at *
 generalize right b=Y at *
 obtain⟨Y1,Y2⟩:=Y;obtain rfl:Y2=0:=h0;go_enter func170,ntmps170;go_wp2_with fail
 refine(HC.o _ (Z' _ _)).mono ?_;rintro e w2 ⟨rfl,Zb⟩;clear HC;have y2:=Zb.block w AB;rw[Z9]at y2;have TY:w.heap.size+1≤w2.heap.size:=by have h:=Zb.size;have h:(w.heap.push _).size≤w2.heap.size:=h;rw[Ou]at h;exact h
 have Y2H:=Zh y2;clear y2;go_wp2_with fail
 have WT:Below w w w2:=(Z' w _).trans (Zb.mono j5);have HEYE:Hid (TJ (w2.alloc (.cells (Q9 (some ⟨g,off,none⟩) b.length c 4) 264)).drew w2 (.slice (some ⟨g,off,none⟩) b.length c) 4):=Z9 _ _
 have HRB3:Hid (RB w (w2.alloc (.cells (Q9 (some ⟨g,off,none⟩) b.length c 4) 264)).drew w2 (.slice (some ⟨g,off,none⟩) b.length c) 4 Yz1):=
  ⟨(WT.trans ((Z' w2 _).mono WT.size)).drew,by show(w2.alloc _).heap[w.heap.size]?=_;rw[(Z' w2 _).block w Zo];exact Y2H.o,HEYE.o,Zo⟩
 have ZB:Hid (∀w',Below w w w'→w'.cell? ⟨g,off+1,none⟩=some (.int .u8 (at8 b 1:Int))∧Below w w w'):=fun w' h=>by
  obtain⟨_,_,_,e,_,_,hc⟩:=RI (HV.o w' h) Zo;cases e;exact⟨hc 1 Zo,h⟩
 have hbI:(1:Int)<(b.length:Int):=by omega
 have hbN:1<b.length:=by omega
 have SF:=Xj b 1;have hg4:get b 4 4<4294967296:=U7 b 4 4 4 Zd;have HW:=Zh (IZ w2 _ b 4 _ HEYE.o (HV.o _ (WT.trans ((Z' w2 _).mono WT.size)).drew) Zo);have hzz:w.heap.size<w2.heap.size:=by omega
 clear Zb;have HK:=Zh hk;have Al:=Zh hlen;have H15:=Zh h15;have oV:Hid (report b=⟨(at8 b 1:Int),get b 4 4,if at8 b 1=200 then(get b 8 8:Int)else 0,if at8 b 1=200 then(get b 16 4:Int)else 0,if at8 b 1=200 then(get b 20 4:Int)else 0,if at8 b 1=200 then(get b 24 4:Int)else 0,(List.range (at8 b 0%32)).map fun(i:Nat)=>NG b ((if at8 b 1=200 then 28 else 8)+24*i),[],0,[]⟩):=rfl;clear hk hlen hb4' h15 RV yD;generalize at8 b 1=kd at *
 have hkw:IntKind.i64.wrap (kd:Int)=(kd:Int):=Te _ Zo;refine R5 ?_;refine wp_region_held_drew (S:=(fun w'=>w'.cell? ⟨g,off+1,none⟩=some (.int .u8 (kd:Int))∧Below w w w')) X_ ?_ (fun XC=>?_)
 ·exact ZB.o _ (WT.trans ((Z' w2 _).mono WT.size)).drew
 refine YA 0 (h:=YA 1 (h:=YA 2 (h:=YA 3 (h:=YA 4 (h:=?_)))));refine wpAnyH_ready (rs:=[5]) X_ Zi ?_;refine AllReadyH.cons (i:=5) rfl (fun K hK=>?_) ?_
 ·go_simp
  (refine HW.o.mono ?_;rintro e w4 ⟨rfl,he4,dx⟩;have eQ:=Zh (HRB3.o.move he4 dx);have TW:Below w w w4:=eQ.o.Zf)
  go_wp2_with fail
  refine hK.out _ _ ?_ (fun Vz=>?_)
  ·exact ZB.o _ TW
  clear hK K;try simp only[Z_.pt]
  refine YA 6 (h:=?_);refine R3 7 (h:=fun K hK=>?_);refine Sl Zr 173 (.tmp 2) (.tmp 25) Zr Zr w (Qe (kd:Int) (get b 4 4:Nat) 0 0 0 0 none 0 0 none 0 0 0 none 0 0) Zr Zr 173 _ eQ.o.Y8 X_ X_ X_ ?_;have Ar:=Zh (eQ.o.row (Qe (kd:Int) (get b 4 4:Nat) 0 0 0 0 none 0 0 none 0 0 0 none 0 0));refine hK.out _ _ (ZB.o _ Ar.o.Zf) (fun _=>?_);clear hK K;try simp only[Z_.pt]
  refine wpAnyH_done X_ ?_ _;refine QZ ?_;have hbe:=Ar.o.Zf;have z0:(w4.setRow w (Qe (kd:Int) (get b 4 4:Nat) 0 0 0 0 none 0 0 none 0 0 0 none 0 0)).cell? ⟨w,0,none⟩=some (.int .i64 (kd:Int)):=Ar.o.cell 0;have HRB:Hid (RB w (w4.setRow w (Qe (kd:Int) (get b 4 4:Nat) 0 0 0 0 none 0 0 none 0 0 0 none 0 0)) w2 (.slice (some ⟨g,off,none⟩) b.length c) 8 (Qe (kd:Int) (get b 4 4:Nat) 0 0 0 0 none 0 0 none 0 0 0 none 0 0)):=Ar.o;clear HRB3 eQ Ar HW HEYE TW he4 dx XC Vz ZB hbI hbN Y2H WT hkw;generalize w4.setRow w (Qe (kd:Int) (get b 4 4:Nat) 0 0 0 0 none 0 0 none 0 0 0 none 0 0)=w5 at *
  clear TY;clear w4;generalize w2.heap.size=k at *
  clear w2;obtain⟨P0,Ap⟩:∃P0:Nat,Hid (P0=if kd=200 then 28 else 8):=⟨_,rfl⟩;obtain⟨N2,nU⟩:∃x:Int,Hid (x=if kd=200 then(get b 8 8:Int)else 0):=⟨_,rfl⟩;obtain⟨N3,wG⟩:∃x:Int,Hid (x=if kd=200 then(get b 16 4:Int)else 0):=⟨_,rfl⟩;obtain⟨N4,Lm⟩:∃x:Int,Hid (x=if kd=200 then(get b 20 4:Int)else 0):=⟨_,rfl⟩;obtain⟨N5,Lp⟩:∃x:Int,Hid (x=if kd=200 then(get b 24 4:Int)else 0):=⟨_,rfl⟩;go_upto_if 28 with fail
  go_cut [] (fun wx=>RB w wx k (.slice (some ⟨g,off,none⟩) b.length c) P0 (Qe (kd:Int) (get b 4 4:Nat) N2 N3 N4 N5 none 0 0 none 0 0 0 none 0 0))
  case first=>
   by_cases Hh:kd=200
   ·have bk:((kd:Int)==200)=true:=by rw[beq_iff_eq];omega
    have CG:Hid (Calls prog 181 (Qj (some ⟨k,0,none⟩) 8) w5 fun e w'=>e = .returned (.int .u64 (get b 8 8:Nat))∧RB w w' k (.slice (some ⟨g,off,none⟩) b.length c) 16 (Qe (kd:Int) (get b 4 4:Nat) 0 0 0 0 none 0 0 none 0 0 0 none 0 0)∧Fr w5 (· = k) w5 w'):=HRB.o.get HV.o Zo 8 Zo;have hP:P0=28:=by rw[Ap.o,ZU Hh]
    have h2:N2=(get b 8 8:Int):=by rw[nU.o,ZU Hh]
    have h3:N3=(get b 16 4:Int):=by rw[wG.o,ZU Hh]
    have h4:N4=(get b 20 4:Int):=by rw[Lm.o,ZU Hh]
    have h5:N5=(get b 24 4:Int):=by rw[Lp.o,ZU Hh]
    subst hP h2 h3 h4 h5;clear Ap nU wG Lm Lp Hh;go_wp2_with fail
    refine CG.o.mono ?_;rintro e w6 ⟨rfl,hrb6,-⟩;have CW6:Hid (Calls prog 180 #[.pointer (some ⟨k,0,none⟩)] w6 fun e w'=>e = .returned (.int .u32 (get b 16 4:Nat))∧RB w w' k (.slice (some ⟨g,off,none⟩) b.length c) 20 (Qe (kd:Int) (get b 4 4:Nat) 0 0 0 0 none 0 0 none 0 0 0 none 0 0)∧Fr w6 (· = k) w6 w'):=hrb6.word HV.o Zo;clear hrb6;go_wp2_with fail
    refine CW6.o.mono ?_;rintro e w7 ⟨rfl,hrb7,-⟩;have CW7:Hid (Calls prog 180 #[.pointer (some ⟨k,0,none⟩)] w7 fun e w'=>e = .returned (.int .u32 (get b 20 4:Nat))∧RB w w' k (.slice (some ⟨g,off,none⟩) b.length c) 24 (Qe (kd:Int) (get b 4 4:Nat) 0 0 0 0 none 0 0 none 0 0 0 none 0 0)∧Fr w7 (· = k) w7 w'):=hrb7.word HV.o Zo;clear hrb7;go_wp2_with fail
    refine CW7.o.mono ?_;rintro e w8 ⟨rfl,hrb8,-⟩;have CW8:Hid (Calls prog 180 #[.pointer (some ⟨k,0,none⟩)] w8 fun e w'=>e = .returned (.int .u32 (get b 24 4:Nat))∧RB w w' k (.slice (some ⟨g,off,none⟩) b.length c) 28 (Qe (kd:Int) (get b 4 4:Nat) 0 0 0 0 none 0 0 none 0 0 0 none 0 0)∧Fr w8 (· = k) w8 w'):=hrb8.word HV.o Zo;clear hrb8;go_wp2_with fail
    refine CW8.o.mono ?_;rintro e w9 ⟨rfl,Ek,-⟩;have z2:w9.cell? ⟨w,2,none⟩=some (.int .u64 0):=Ek.cell 2;have z3:w9.cell? ⟨w,3,none⟩=some (.int .u32 0):=Ek.cell 3;have z4:w9.cell? ⟨w,4,none⟩=some (.int .u32 0):=Ek.cell 4;have z5:w9.cell? ⟨w,5,none⟩=some (.int .u32 0):=Ek.cell 5;have f2:=Ek.frozen 2;have f3:=Ek.frozen 3;have f4:=Ek.frozen 4;have f5:=Ek.frozen 5;have HF:=Zh ((((Ek.set 2 (.int .u64 (get b 8 8:Nat))).set 3 (.int .u32 (get b 16 4:Nat))).set 4 (.int .u32 (get b 20 4:Nat))).set 5 (.int .u32 (get b 24 4:Nat)));clear Ek;go_wp2_with fail
    go_meet;exact HF.o
   ·have bk:((kd:Int)==200)=false:=by rw[WM];omega
    have hP:P0=8:=by rw[Ap.o,Z3 Hh]
    have h2:N2=0:=by rw[nU.o,Z3 Hh]
    have h3:N3=0:=by rw[wG.o,Z3 Hh]
    have h4:N4=0:=by rw[Lm.o,Z3 Hh]
    have h5:N5=0:=by rw[Lp.o,Z3 Hh]
    subst hP h2 h3 h4 h5;clear Ap nU wG Lm Lp Hh;go_wp2_with fail
    go_meet;exact HRB.o
  case rest=>
   obtain⟨W5,rfl⟩:∃W:World,W=wc:=⟨_,rfl⟩;obtain⟨_,_,_,e1,_,_,gI⟩:=RI (HV.o _ hcut.Zf) Zo;cases e1;have d0:W5.cell? ⟨g,off,none⟩=some (.int .u8 (at8 b 0:Int)):=gI 0 Zo;have ha:=AK (at8 b 0) (Xj b 0);have hm15:=H15.o;have hP28:P0≤28:=by rw[Ap.o];split <;> omega
   have hRP:report b=⟨(kd:Int),get b 4 4,N2,N3,N4,N5,(List.range (at8 b 0%32)).map fun(i:Nat)=>NG b (P0+24*i),[],0,[]⟩:=by rw[oV.o,Ap.o,nU.o,wG.o,Lm.o,Lp.o]
   have HRP2:=Zh hRP;have HCUT:=Zh hcut;clear gI hcut oV Ap nU wG Lm Lp HRB z0 hbe hRP HK H15 Al WX;generalize at8 b 0%32=m at *
   obtain⟨BL,hBL⟩:∃BL:List oD,BL=(List.range m).map fun(i:Nat)=>NG b (P0+24*i):=⟨_,rfl⟩
   have HBLn:Hid (BL.length=m):=by show _=_;rw[hBL];simp
   have HBLs:Hid (∀j,j<m→BL.take (j+1)=BL.take j++[NG b (P0+24*j)]):=fun j hj=>by
    rw[List.take_succ_eq_append_getElem (by rw[HBLn.o];exact hj)];simp[hBL]
   rw[←hBL]at HRP2;clear hBL;have HR0:Hid (RL w W5 k (.slice (some ⟨g,off,none⟩) b.length c) P0 (Qe (kd:Int) (get b 4 4:Nat) N2 N3 N4 N5 none 0 0 none 0 0 0 none 0 0) (.slice none 0 0) 0 []):=⟨HCUT.o,TV _ _ _ _⟩;clear HCUT;go_upto_region 9 with fail
   go_loopw [45] (fun i w'=>∃(j:Nat) (bv:Value),j≤m∧i = .int .u8 (j:Int)∧RL w w' k (.slice (some ⟨g,off,none⟩) b.length c) (P0+24*j) (Je (kd:Int) (get b 4 4:Nat) N2 N3 N4 N5 bv none 0 0 0 none 0 0) bv j ((BL.take j).flatMap W_)) (fun i _=>m-(intOf i).toNat)
   case atStart=>exact⟨0,_,TH _,rfl,HR0.o⟩
   case round=>
    clear HR0;obtain⟨j,bv0,hj,rfl,hrl⟩:=hrel;obtain⟨ud,ue,hbv0,-,-⟩:=Row.Z4 hrl.own;subst hbv0;have nX:=Zh hrl;clear hrl;by_cases yB:j<m
    ·have VN:=Zh (HBLs.o j yB);obtain⟨p,hp⟩:∃p,p=P0+24*j:=⟨_,rfl⟩;have Db:p≤1000:=by omega
     rw[←hp]at VN nX;obtain⟨cs,TN⟩:∃cs:List Value,cs=(Je (kd:Int) (get b 4 4:Nat) N2 N3 N4 N5 (.slice ud j ue) none 0 0 0 none 0 0):=⟨_,rfl⟩;obtain⟨xs,GY⟩:∃xs:List Value,xs=(BL.take j).flatMap W_:=⟨_,rfl⟩;rw[←TN,←GY]at nX;have HCSE:=Zh TN;have HXSE:=Zh GY;clear TN GY;have HPN:Hid (P0+24*(j+1)=p+24):=by show _=_;rw[hp];omega
     clear hp;have HBC:Hid (W_ (NG b p)=(Qs (get b (p:Nat) 4:Nat) (get b (p+4:Nat) 1:Nat) (get b (p+5:Nat) 3:Nat) (get b (p+8:Nat) 4:Nat) (get b (p+12:Nat) 4:Nat) (get b (p+16:Nat) 4:Nat) (get b (p+20:Nat) 4:Nat))):=rfl;have CS:=fun q (hq:q≤2000) w1 bv xs j cs (h:RL w w1 k (.slice (some ⟨g,off,none⟩) b.length c) q cs bv j xs)=>h.word (b:=b) HV.o Zo
     have CG:=fun q (hq:q≤2000) w1 bv xs j cs (h:RL w w1 k (.slice (some ⟨g,off,none⟩) b.length c) q cs bv j xs) r hr=>h.get (b:=b) HV.o Zo r hr
     have iF:=Zh CS;have nR:=Zh CG;clear CS CG;have x0b:get b (p:Nat) 4<4294967296:=U7 b _ 4 4 Zd;have x1b:get b (p+4:Nat) 1<256:=U7 b _ 1 1 Zd;have x2b:get b (p+5:Nat) 3<4294967296:=OB (U7 b _ 3 3 Zd) Zd;generalize h0:get b (p:Nat) 4=x0 at *
     generalize h1:get b (p+4:Nat) 1=x1 at *
     generalize h2:get b (p+5:Nat) 3=x2 at *
     generalize h3:get b (p+8:Nat) 4=x3 at *
     generalize h4:get b (p+12:Nat) 4=x4 at *
     generalize h5:get b (p+16:Nat) 4=x5 at *
     generalize h6:get b (p+20:Nat) 4=x6 at *
     have HG0:=Zh h0;have Ot:=Zh h1;have JY:=Zh h2;have HG3:=Zh h3;have HG4:=Zh h4;have eB:=Zh h5;have xd:=Zh h6;clear h0 h1 h2 h3 h4 h5 h6;have C1:Hid (Calls prog 180 #[.pointer (some ⟨k,0,none⟩)] wr fun e w'=>e = .returned (.int .u32 (x0:Nat))∧RL w w' k (.slice (some ⟨g,off,none⟩) b.length c) (p+4) cs (.slice ud j ue) j xs∧Fr wr (· = k) wr w'):=by have:=iF.o p Zo _ _ _ _ _ nX.o;rw[HG0.o]at this;exact this
     go_wp2_with fail
     refine C1.o.mono ?_;rintro e v1 ⟨rfl,aA,-⟩;have JZ:=Zh aA;clear aA C1;have C2:Hid (Calls prog 181 (Qj (some ⟨k,0,none⟩) 1) v1 fun e w'=>e = .returned (.int .u64 (x1:Nat))∧RL w w' k (.slice (some ⟨g,off,none⟩) b.length c) (p+5) cs (.slice ud j ue) j xs∧Fr v1 (· = k) v1 w'):=by have:=nR.o (p+4) Zo _ _ _ _ _ JZ.o 1 Zo;rw[←Ot.o];exact this
     go_wp2_with fail
     refine C2.o.mono ?_;rintro e v2 ⟨rfl,Mz,-⟩;have rP:=Zh Mz;clear Mz C2;have C3:Hid (Calls prog 181 (Qj (some ⟨k,0,none⟩) 3) v2 fun e w'=>e = .returned (.int .u64 (x2:Nat))∧RL w w' k (.slice (some ⟨g,off,none⟩) b.length c) (p+8) cs (.slice ud j ue) j xs∧Fr v2 (· = k) v2 w'):=by have:=nR.o (p+5) Zo _ _ _ _ _ rP.o 3 Zo;rw[←JY.o];exact this
     go_wp2_with fail
     refine C3.o.mono ?_;rintro e v3 ⟨rfl,Ej,-⟩;have xu:=Zh Ej;clear Ej C3;have bL:=Zh (xu.o.below (Z' v3 (.cells (Qs (x0:Nat) (x1:Nat) (x2:Nat) 0 0 0 0) 228)));have wU:Hid ((v3.alloc (.cells (Qs (x0:Nat) (x1:Nat) (x2:Nat) 0 0 0 0) 228)).heap[v3.heap.size]?=some (.cells (Qs (x0:Nat) (x1:Nat) (x2:Nat) 0 0 0 0) 228)):=Z9 _ _;have dA:k<v3.heap.size:=xu.o.rb.qD;have hwk:w.heap.size<k:=xu.o.rb.lt
     have HOB:Hid (∀i,(Value.slice ud j ue).ownBlock=some i→i≠v3.heap.size):=fun i hi e=>by
      have:=iu xu.o.own i hi;omega
     have C4:Hid (Calls prog 180 #[.pointer (some ⟨k,0,none⟩)] (v3.alloc (.cells (Qs (x0:Nat) (x1:Nat) (x2:Nat) 0 0 0 0) 228)) fun e w'=>e = .returned (.int .u32 (x3:Nat))∧RL w w' k (.slice (some ⟨g,off,none⟩) b.length c) (p+12) cs (.slice ud j ue) j xs∧Fr (v3.alloc (.cells (Qs (x0:Nat) (x1:Nat) (x2:Nat) 0 0 0 0) 228)).heap.size (· = k) (v3.alloc (.cells (Qs (x0:Nat) (x1:Nat) (x2:Nat) 0 0 0 0) 228)) w'):=by have:=iF.o (p+8) Zo _ _ _ _ _ bL.o;rw[←HG3.o];exact this
     go_wp2_with fail
     refine C4.o.mono ?_;rintro e v4 ⟨rfl,yE,dx⟩;have HK4:=Zh (A2 dx wU.o dA);have HR4:=Zh yE;clear yE dx C4 wU bL xu rP JZ;generalize v3.heap.size=q at *
     clear v3;have C5:Hid (Calls prog 180 #[.pointer (some ⟨k,0,none⟩)] v4 fun e w'=>e = .returned (.int .u32 (x4:Nat))∧RL w w' k (.slice (some ⟨g,off,none⟩) b.length c) (p+16) cs (.slice ud j ue) j xs∧Fr v4 (· = k) v4 w'):=by have:=iF.o (p+12) Zo _ _ _ _ _ HR4.o;rw[←HG4.o];exact this
     go_wp2_with fail
     refine C5.o.mono ?_;rintro e v5 ⟨rfl,hr5,p_⟩;have HK5:=Zh (A2 p_ HK4.o dA);have HR5:=Zh hr5;clear hr5 p_ C5 HR4 HK4;have C6:Hid (Calls prog 180 #[.pointer (some ⟨k,0,none⟩)] v5 fun e w'=>e = .returned (.int .u32 (x5:Nat))∧RL w w' k (.slice (some ⟨g,off,none⟩) b.length c) (p+20) cs (.slice ud j ue) j xs∧Fr v5 (· = k) v5 w'):=by have:=iF.o (p+16) Zo _ _ _ _ _ HR5.o;rw[←eB.o];exact this
     go_wp2_with fail
     refine C6.o.mono ?_;rintro e v6 ⟨rfl,hr6,hf6⟩;have HK6:=Zh (A2 hf6 HK5.o dA);have xy:=Zh hr6;clear hr6 hf6 C6 HR5 HK5;have C7:Hid (Calls prog 180 #[.pointer (some ⟨k,0,none⟩)] v6 fun e w'=>e = .returned (.int .u32 (x6:Nat))∧RL w w' k (.slice (some ⟨g,off,none⟩) b.length c) (p+24) cs (.slice ud j ue) j xs∧Fr v6 (· = k) v6 w'):=by have:=iF.o (p+20) Zo _ _ _ _ _ xy.o;rw[←xd.o];exact this
     go_wp2_with fail
     refine C7.o.mono ?_;rintro e v7 ⟨rfl,gY,gM⟩;have Cz:=A2 gM HK6.o dA;have u3:v7.cell? ⟨q,3,none⟩=some (.int .u32 0):=cell_of Cz 3;have u4:v7.cell? ⟨q,4,none⟩=some (.int .u32 0):=cell_of Cz 4;have u5:v7.cell? ⟨q,5,none⟩=some (.int .u32 0):=cell_of Cz 5;have u6:v7.cell? ⟨q,6,none⟩=some (.int .u32 0):=cell_of Cz 6;have f3:=ZP Cz 3;have f4:=ZP Cz 4;have f5:=ZP Cz 5;have f6:=ZP Cz 6;have gV:=GM Cz 3 (.int .u32 (x3:Nat));have UH:=GM gV 4 (.int .u32 (x4:Nat));have lK:=GM UH 5 (.int .u32 (x5:Nat));have hk11:=GM lK 6 (.int .u32 (x6:Nat));have eP:=Zh ((((gY.other Cz (o:=3) dA HOB.o (.int .u32 (x3:Nat))).other gV (o:=4) dA HOB.o (.int .u32 (x4:Nat))).other UH (o:=5) dA HOB.o (.int .u32 (x5:Nat))).other lK (o:=6) dA HOB.o (.int .u32 (x6:Nat)));have tG:=Zh hk11;clear Cz gV UH lK hk11 gY gM C7 xy HK6;go_upto_region 12 with fail
     clear u3 u4 u5 u6 f3 f4 f5 f6;generalize(((v7.setCell ⟨q,3,none⟩ (.int .u32 (x3:Nat))).setCell ⟨q,4,none⟩ (.int .u32 (x4:Nat))).setCell ⟨q,5,none⟩ (.int .u32 (x5:Nat))).setCell ⟨q,6,none⟩ (.int .u32 (x6:Nat))=v8 at *
     clear v7;have c0:v8.cell? ⟨q,0,none⟩=some (.int .u32 (x0:Nat)):=cell_of tG.o 0;have c1:v8.cell? ⟨q,1,none⟩=some (.int .u8 (x1:Nat)):=cell_of tG.o 1;have c2:v8.cell? ⟨q,2,none⟩=some (.int .u32 (x2:Nat)):=cell_of tG.o 2;have c3:v8.cell? ⟨q,3,none⟩=some (.int .u32 (x3:Nat)):=cell_of tG.o 3;have c4:v8.cell? ⟨q,4,none⟩=some (.int .u32 (x4:Nat)):=cell_of tG.o 4;have c5:v8.cell? ⟨q,5,none⟩=some (.int .u32 (x5:Nat)):=cell_of tG.o 5;have c6:v8.cell? ⟨q,6,none⟩=some (.int .u32 (x6:Nat)):=cell_of tG.o 6;have cb:v8.cell? ⟨w,6,none⟩=some (.slice ud j ue):=by rw[eP.o.rb.cell 6,HCSE.o];rfl
     have gV:k<v8.heap.size:=eP.o.rb.qD;go_wp2_with (at_builtin;refine YO rfl (.tmp 69) (.tmp 71) 170 rfl (k+1) Mt (.slice ud j ue) j _ rfl (eP.o.own.alloc _) _ 1 (Qs (x0:Nat) (x1:Nat) (x2:Nat) (x3:Nat) (x4:Nat) (x5:Nat) (x6:Nat)) rfl (VA v8 228 1 (Qs (x0:Nat) (x1:Nat) (x2:Nat) (x3:Nat) (x4:Nat) (x5:Nat) (x6:Nat)) Zd) rfl (by intro u hu;simp at hu;rcases hu with rfl|rfl|rfl|rfl|rfl|rfl|rfl <;> rfl) Zo Zo Uf (fun v' w5 HO HG=>?_);have Ar:=Zh ((eP.o.below (Z' v8 _)).grown HG.o);have f6:=Ar.o.frozen 6;have c65:w5.cell? ⟨w,6,none⟩=some (.slice ud j ue):=(by rw[Ar.o.cell 6,HCSE.o];rfl);obtain⟨va,vc,mn,-,-⟩:=Row.Z4 HO.o;subst mn)
     go_roundw
     case rel=>exact⟨j+1,_,Zo,Zn,by rw[VN.o,HPN.o,OD,←HXSE.o];refine⟨by have h:=Ar.o.set 6 (.slice va (j+1) vc);rw[HCSE.o]at h;exact h,U_ (by have h:=HO.o;rw[←HBC.o]at h;rw[show[NG b p].flatMap W_=W_ (NG b p) by simp];exact h) Zo _⟩⟩
     case measure=>simp[intOf];omega
    ·obtain rfl:j=m:=by omega
     have ZW:=Row.Z4 nX.o.own;have y0:=nX.o.rb.Y8;have z0:=cell_of y0 0;have z1:=cell_of y0 1;have z2:=cell_of y0 2;have z3:=cell_of y0 3;have z4:=cell_of y0 4;have z5:=cell_of y0 5;have z6:=cell_of y0 6;have z7:=cell_of y0 7;have z8:=cell_of y0 8;have z9:=cell_of y0 9;simp only[SN,Sy,R4]at z0 z1 z2 z3 z4 z5 z6 z7 z8 z9;have Il:=fun(R:World→Prop) (h:R wr)=>(by rw[setRow_self _ _ _ _ _ y0];exact h:R (wr.setRow w (Je (kd:Int) (get b 4 4:Nat) N2 N3 N4 N5 (.slice ud j ue) none 0 0 0 none 0 0)))
     have HS:=Zh Il;have Vc:=Zh ZW;have Sv:=Zh nX.o.rb.Zf;have HT:Hid (BL.take j=BL):=EM (by rw[HBLn.o];exact Zw _);clear Il ZW nX;go_wp2_with (with_reducible refine ZT 173 (.tmp 2) (.tmp 75) rfl ?_;go_loud (refine Zs y0 ?_;refine HS.o _ ?_))
     refine VD (v:= .tuple (Qq (Je (kd:Int) (get b 4 4:Nat) N2 N3 N4 N5 (.slice ud j ue) none 0 0 0 none 0 0) Y1 0)) (by simp[results,results170,go_sem,z0,z1,z2,z3,z4,z5,z6,z7,z8,z9]) rfl ⟨⟨_,by rw[HX.o],?_⟩,Sv.o⟩;rw[HX.o];dsimp only;rw[HRP2.o];refine⟨.slice ud j ue,.slice none 0 0,.slice none 0 0,rfl,?_,Row.nil _ _,Row.nil _ _⟩;have h:=Vc.o;rw[HT.o]at h;show Row _ _ _ BL.length _;rw[HBLn.o];exact h
 exact AllReadyH.nil
theorem UL{P:Program}{fn:Func}{p u v:Tmp}{ty:TypeId}(h:fn.results=#[.cell p ty,.tmp u,.tmp v])(tmps:Array Value)(w:World)(g:Nat)(t:TypeId)(cs:Array Value)(fr:Nat×Nat)(d:TypeDesc)
  (hp:tmps.getD p undef = .pointer (some ⟨g,0,none⟩)) (hg:w.heap[g]?=some (.cells cs t fr))
  (hu:P.underlying ty=some d) (hd:(match d with | .struct _ | .array _ _=>true|_=>false)=true) (hi:(P.info? ty).map (·.size)=some cs.size) :
  (results fn tmps).run P w = .ok (.tuple #[.agg cs,tmps.getD u undef,tmps.getD v undef]) w:=by
 exact Yt8
theorem Ez(v:Value)(b:List UInt8)(w:World)(hv:X5 w v b) :
  Calls prog 170 #[v] w fun e w'=>(∃a,e = .returned (.tuple #[a,.int .i64 (XV b).1.2,.int .i64 (XV b).2])∧S4 w' a (XV b).1.1)∧Below w w w':=by
 by_cases h:(right b).2=0
 ·exact Bz v b w hv h
 ·exact EA v b w hv h
theorem Kz{w:World}{v:Value}{i:Ru}(h:S4 w v i):∃xa xc ya yc za zc,v = .agg (Js i xa xc ya yc za zc)∧Ue w ⟨i,.slice xa i.blocks.length xc,.slice ya i.gone.length yc,.slice za i.Xo.length zc⟩:=by
 obtain⟨bv,gv,pv,h1,h2,h3,h4⟩:=h.ex;obtain⟨xa,xc,rfl⟩:=Row.form h2;obtain⟨ya,yc,rfl⟩:=Row.form h3;obtain⟨za,zc,rfl⟩:=Row.form h4;exact⟨xa,xc,ya,yc,za,zc,h1,⟨h2,h3,h4⟩⟩
theorem M6{w:World}{i:Ru}{xa ya za:Option Addr}{xc yc zc:Nat}(h:Ue w ⟨i,.slice xa i.blocks.length xc,.slice ya i.gone.length yc,.slice za i.Xo.length zc⟩):S4 w (.agg (Js i xa xc ya yc za zc)) i:=⟨_,_,_,rfl,h.b,h.g,h.p⟩
theorem Ue.setRow{w:World}{x:RF}(h:Ue w x){g:Nat}{c:Array Value}{f:Nat×Nat}(hg:w.heap[g]?=some (.cells c 173 f))(c':Array Value):Ue (w.setRow g c') x:=
 ⟨Row.setRow h.b hg Zd c',Row.setRow h.g hg Zd c',Row.setRow h.p hg Zd c'⟩
theorem Df(w:World):Ue w ⟨XP,.slice none 0 0,.slice none 0 0,.slice none 0 0⟩:=⟨Row.nil _ _,Row.nil _ _,Row.nil _ _⟩
theorem mC{b:List UInt8}(h:(Xr b).2=true)(h2:¬((Xr b).1=200∨(Xr b).1=201)):(Xr b).1=203∨(Xr b).1=205∨(Xr b).1=206:=by
 unfold Xr at h h2 ⊢;split at h
 ·rename_i h1;rw[ZU h1]at h2 ⊢;omega
 ·rename_i h1
  rw[Z3 h1]at h2 ⊢;split at h
  ·rename_i h3;rw[ZU h3]at h2 ⊢;omega
  ·cases h
theorem uK{b:List UInt8}{k:Nat}(hk:k=203∨k=205∨k=206)(h:(XG b k).2=true):(XG b k).1%4=0∧4≤(XG b k).1∧(k≠203→12≤(XG b k).1):=by
 unfold XG at h ⊢;by_cases h1:k=203
 ·dsimp only at h ⊢;rw[ZU h1]at h ⊢;exact⟨by show(get b 2 2+1)*4%4=0;omega,by show 4≤(get b 2 2+1)*4;omega,fun h=>absurd h1 h⟩
 ·dsimp only at h ⊢;rw[Z3 h1]at h ⊢;by_cases h2:k=205
  ·rw[ZU h2]at h ⊢;have h:=(UW _ _).mp h;have h3:=of_decide_eq_true h.1;exact⟨by show(get b 2 2+1)*4%4=0;omega,by show 4≤(get b 2 2+1)*4;omega,fun _=>by show 12≤(get b 2 2+1)*4;omega⟩
  ·rw[Z3 h2]at h ⊢;have h3:=of_decide_eq_true h;exact⟨by show(get b 2 2+1)*4%4=0;omega,by show 4≤(get b 2 2+1)*4;omega,fun _=>by show 12≤(get b 2 2+1)*4;omega⟩
theorem qQ(v:Value)(b:List UInt8)(k:Nat)(w:World)(hv:X5 w v b)(hk:k=203∨k=205∨k=206)(h4:b.length%4=0)(hb:b.length≤1000)(TW:4≤b.length)(Ef:k≠203→12≤b.length) :
  Calls prog 172 #[v,.int .i64 (k:Int)] w fun e w'=>(∃a,e = .returned a∧S4 w' a (parts b k))∧Below w w w':=by
 by_cases h:k=203
 ·subst h;exact qR v b w hv h4 hb TW
 ·exact zg v b k w hv h4 hb (Ef h) h Zo
theorem mF(v:Value)(b:List UInt8)(w:World)(hv:X5 w v b)(hb:b.length≤512) :
  Calls prog 151 #[v] w fun e w'=>(∃a,e = .returned (.tuple #[a,.int .i64 ((Y5 b).1.2:Nat),.int .i64 (Y5 b).2])∧S4 w' a (Y5 b).1.1)∧Below w w w':=by
 have HX:Hid (Y5 b=if b.length<4 then((XP,0),2)else if at8 b 0/32≠4 then((XP,0),1)else if(Xr b).2=false then((XP,0),4)else if(Xr b).1=200∨(Xr b).1=201 then XV b else if(XG b (Xr b).1).2=false then((XP,0),1)else if b.length<(XG b (Xr b).1).1 then((XP,0),2)else((parts (b.take (XG b (Xr b).1).1) (Xr b).1,(XG b (Xr b).1).1),0)):=rfl;have HV:Hid (∀w',Below w w w'→X5 w' v b):=fun w' h=>hv.below h
 have P8:=Z9 w (.cells Ya 173);have VN:=Zh (Z' w (.cells Ya 173))
 have UF:Hid (∀w2 n er,w2.heap[w.heap.size]?=some (.cells Ya 173 (0,0))→Below w w w2→Y5 b=((XP,n),er)→(∃a,Ending.returned (.tuple (Qq Ya (n:Nat) er)) = .returned (.tuple #[a,.int .i64 ((Y5 b).1.2:Nat),.int .i64 (Y5 b).2])∧S4 (w2.setRow w Ya) a (Y5 b).1.1)∧Below w w (w2.setRow w Ya)):=fun w2 n er h1 h2 h3=>by
  rw[h3];exact⟨⟨_,rfl,M6 ((Df w2).setRow h1 _)⟩,Z0 h2 (Zw _) _⟩
 obtain⟨va,c,rfl,RV,-⟩:=id hv;have WX:=fun h=>RI hv h
 clear hv;have BU:=Zh RV;clear RV;generalize Y5 b=X at *
 by_cases h1:b.length<4
 ·rw[ZU h1]at HX;clear HV WX;go_enter func151,ntmps151;go_wp2_with (first|(with_reducible refine Zs P8 ?_))
  refine VD (v:= .tuple (Qq Ya 0 2)) ?_ rfl ?_
  ·exact Yx96
  exact UF.o _ 0 2 P8 VN.o HX.o
 obtain⟨g,off,cap,e1,_,_,hc⟩:=WX Zo;cases e1;have d0:w.cell? ⟨g,off,none⟩=some (.int .u8 (at8 b 0:Int)):=hc 0 Zo;have l1:decide ((b.length:Int)<4)=false:=Wz Zo;have zZ:g<w.heap.size:=World.block_lt_of_cell? w ⟨g,off,none⟩ d0;rw[Z3 h1]at HX;clear hc WX;by_cases h2:at8 b 0/32≠4
 ·have q:(((at8 b 0:Nat):Int)/32 !=4)=true:=by rw[RH];omega
  rw[ZU h2]at HX;clear h2;go_enter func151,ntmps151;go_wp2_with (first|(with_reducible refine Zs P8 ?_))
  refine VD (v:= .tuple (Qq Ya 0 1)) ?_ rfl ?_
  ·exact Yx96
  exact UF.o _ 0 1 P8 VN.o HX.o
 have q2:(((at8 b 0:Nat):Int)/32 !=4)=false:=by rw[bne_eq_false_iff_eq];omega
 rw[Z3 h2]at HX;have CK:=Zh (qx _ b (w.alloc (.cells Ya 173)) (HV.o _ VN.o) Zo);have HKO:=Zh (mC (b:=b));clear h2;generalize Xr b=K at *
 obtain⟨k,ok⟩:=K;dsimp only at HX CK HKO;cases ok with
 | false=>
  rw[ZU rfl]at HX;go_enter func151,ntmps151;go_wp2_with (first|(go_at_call 169;refine CK.o.mono ?_;rintro e w2 ⟨rfl,Zb⟩;have TY:=(Zb.block w (ZX P8)).trans P8;have Yg:=Zh (Tr VN Zb);clear Zb)|(with_reducible refine Zs TY ?_))
  refine VD (v:= .tuple (Qq Ya 0 4)) ?_ rfl ?_
  ·exact Yx56
  exact UF.o _ 0 4 TY Yg.o HX.o
 | true=>
  rw[Z3 Zi]at HX;by_cases hk:k=200∨k=201
  ·rw[ZU hk]at HX
   have kb:((k:Int)==200)=true∨(((k:Int)==200)=false∧((k:Int)==201)=true):=by
    rcases hk with h|h
    ·left;rw[beq_iff_eq];omega
    ·right;exact⟨by rw[WM];omega,by rw[beq_iff_eq];omega⟩
   clear hk HKO;rcases kb with kb|⟨kb,kb2⟩
   ·exact Yx19
   ·exact Yx19
  ·rw[Z3 hk]at HX;have hk3:=HKO.o rfl hk;have kb:((k:Int)==200)=false:=by rw[WM];omega
   have kb2:((k:Int)==201)=false:=by rw[WM];omega
   have CL:Hid (∀w',Below w w w'→Calls prog 171 #[(.slice (some ⟨g,off,none⟩) b.length c),.int .i64 (k:Int)] w' fun e w''=>e = .returned (.tuple (Jb ((XG b k).1:Nat) (XG b k).2))∧w'=w''):=fun w' h=>yI _ b k w' (HV.o w' h) Zo
   have HLO:=Zh (uK (b:=b) hk3);clear hk HKO;generalize XG b k=Y at *
   obtain⟨n,ok⟩:=Y;dsimp only at HX CL HLO;cases ok with
   | false=>
    rw[ZU rfl]at HX;go_enter func151,ntmps151;go_wp2_with (first|(go_at_call 169;refine CK.o.mono ?_;rintro e w2 ⟨rfl,Zb⟩;have TY:=(Zb.block w (ZX P8)).trans P8;have Yg:=Zh (Tr VN Zb);clear Zb)|(go_at_call 171;refine(CL.o _ Yg.o).mono ?_;rintro e w3 ⟨rfl,rfl⟩)|(with_reducible refine Zs TY ?_))
    refine VD (v:= .tuple (Qq Ya 0 1)) ?_ rfl ?_
    ·exact Yx56
    exact UF.o _ 0 1 TY Yg.o HX.o
   | true=>
    rw[Z3 Zi]at HX;obtain⟨n4,n5,n6⟩:=HLO.o rfl;by_cases ot:b.length<n
    ·rw[ZU ot]at HX;go_enter func151,ntmps151;go_wp2_with (first|(go_at_call 169;refine CK.o.mono ?_;rintro e w2 ⟨rfl,Zb⟩;have TY:=(Zb.block w (ZX P8)).trans P8;have Yg:=Zh (Tr VN Zb);clear Zb)|(go_at_call 171;refine(CL.o _ Yg.o).mono ?_;rintro e w3 ⟨rfl,rfl⟩)|(with_reducible refine Zs TY ?_))
     refine VD (v:= .tuple (Qq Ya 0 2)) ?_ rfl ?_
     ·exact Yx56
     exact UF.o _ 0 2 TY Yg.o HX.o
    ·rw[Z3 ot]at HX;obtain⟨a',Us,-,ZW⟩:=Sk (P:=prog) VG (some ⟨g,off,none⟩) b.length c n (by have:=BU.o;omega);have aJ:(b.take n).length=n:=by rw[SY];omega
     have CPA:Hid (∀w',Below w w w'→Calls prog 172 (Q9 a' n c (k:Int)) w' fun e w''=>(∃a,e = .returned a∧S4 w'' a (parts (b.take n) k))∧Below w' w' w''):=fun w' h=>by
      refine qQ _ (b.take n) k w' ?_ hk3 (by rw[aJ];exact n4) (by rw[aJ];omega) (by rw[aJ];exact n5) (by rw[aJ];exact n6);have h5:=ZW w' (Rx b) Zo (by rw[Xg,Nat.mul_one]) (HV.o w' h);rw[Nat.mul_one,OH]at h5;show XM _ _ (b.take n).length _;rw[aJ];exact h5
     clear ZW aJ;generalize parts (b.take n) k=i at *
     go_enter func151,ntmps151;go_wp2_with (first|(go_at_call 169;refine CK.o.mono ?_;rintro e w2 ⟨rfl,Zb⟩;have TY:=(Zb.block w (ZX P8)).trans P8;have Yg:=Zh (Tr VN Zb);clear Zb)|(go_at_call 171;refine(CL.o _ Yg.o).mono ?_;rintro e w3 ⟨rfl,rfl⟩)|(go_at_call 172;refine(CPA.o _ Yg.o).mono ?_;rintro e w4 ⟨⟨a,rfl,hit⟩,TW⟩;obtain⟨xa,xc,ya,yc,za,zc,ha,L6⟩:=Kz hit;subst ha;have wz:=Zh L6;have Dd:=(TW.block w (ZX TY)).trans TY;have Va:=Zh (Tr Yg TW);clear hit L6 TW)|(with_reducible refine Zs Dd ?_))
     refine VD (v:= .tuple (Qq (Js i xa xc ya yc za zc) (n:Nat) 0)) ?_ rfl ?_
     ·exact UL (p:=2) (u:=3) (v:=4) Zr _ _ w 173 (Js i xa xc ya yc za zc) (0,0) _ Zr (setRow_heap _ _ _ _ _ _ Dd) underlying173 rfl X_
     exact⟨⟨_,by rw[HX.o],by rw[HX.o];exact M6 (wz.o.setRow Dd _)⟩,Z0 Va.o (Zw _) _⟩
end Go.Proofs.By
namespace Go.Proofs.By
open Go.RowKit Go.Proofs.Heap
theorem Xe{P:Program}{ops:Array Oper}{o:Oper}{a:Act}{w:World}{K:Act→World→Prop}{Q:Exit→Act→World→Prop}{E':Prop}(LH:o.guard=none){t e:TypeId}{size bytes:Nat}(E:Elem P t e size bytes)(x:Operand)(ho:o.op = .buildSlice t 1 #[(0,x)])
  (cells:Array Value) (hx:a.eval x = .agg cells) (hs:cells.size=size) (Vl:size≤1000)
  (h:K (a.put o.dst (.slice (some ⟨w,0,none⟩) 1 1)) (w.alloc (.cells cells e))):if Region.wanted o (yielded ops a.tmps)=true then Oper.wp P o a w K Q else E':=by
 have hw:Region.wanted o (yielded ops a.tmps)=true:=by simp[Region.wanted,LH]
 rw[ZU hw];obtain⟨z,UB,iY⟩:=E.info;obtain⟨i,hi,hz,Sc,lF⟩:=info_parts UB;have P4:=E.pos;refine Go.wp_buildSlice t e 1 #[(0,x)] ho cells i z E.ht hi hz (by rw[Sc];omega) (by rw[Sc];omega) ?_ h;have hf:=Go.Great.fill_whole (s:=i.size) Zo [.agg cells] ((Array.range (1*i.size)).map (z.cells[· % z.cells.size]!)) (fun v hv=>by rw[J7]at hv;subst hv;show cells.size=_;omega) Zi;have e1:([Value.agg cells].flatMap fun v=>v.cells.toList).toArray=cells:=by simp[Value.cells]
 rw[e1]at hf;simpa[hx]using hf
theorem GN:Elem prog 82 173 10 120:=⟨underlying82,⟨.agg Ya,by kernel_rfl,rfl⟩,by decide⟩
def comb(L:List Ru)(x:List Ru×Int):List Ru×Int:=if x.2≠0 then([],x.2)else(L++x.1,0)
theorem xW(L:List Ru)(k:Nat){r:List UInt8}(h:(Y5 r).2≠0):comb L (YE (k+1) r)=([],(Y5 r).2):=by
 have e:YE (k+1) r=([],(Y5 r).2):=by unfold YE;rw[ZU h]
 rw[e];unfold comb;rw[ZU h]
theorem Cf(L:List Ru)(k:Nat){r:List UInt8}(h:(Y5 r).2=0)(hl:r.length-(Y5 r).1.2=0):comb L (YE (k+1) r)=(L++[(Y5 r).1.1],0):=by
 have e:YE (k+1) r=([(Y5 r).1.1],0):=by unfold YE;rw[Z3 (by simp[h]),ZU hl]
 rw[e];rfl
theorem Cg(L:List Ru)(k:Nat){r:List UInt8}(h:(Y5 r).2=0)(hl:¬r.length-(Y5 r).1.2=0):comb L (YE (k+1) r)=comb (L++[(Y5 r).1.1]) (YE k (r.drop (Y5 r).1.2)):=by
 have e:YE (k+1) r=(if(YE k (r.drop (Y5 r).1.2)).2≠0 then([],(YE k (r.drop (Y5 r).1.2)).2)else((Y5 r).1.1 :: (YE k (r.drop (Y5 r).1.2)).1,0)):=by
  conv=>lhs;unfold YE
  rw[Z3 (by simp[h]),Z3 hl]
 rw[e];generalize YE k (r.drop (Y5 r).1.2)=y;by_cases h2:y.2≠0
 ·rw[ZU h2];unfold comb;rw[ZU h2,ZU h2]
 ·rw[Z3 h2];unfold comb;rw[Z3 h2,cL];exact Z3 Zi
theorem Iu{k:Nat}{b:List UInt8}(h:(YE k b).2≠0):YE k b=([],(YE k b).2):=by
 cases k with
 | zero=>rfl
 | succ k=>
  unfold YE at h ⊢;by_cases h1:(Y5 b).2≠0
  ·rw[ZU h1]
  rw[Z3 h1]at h ⊢;by_cases h2:b.length-(Y5 b).1.2=0
  ·rw[ZU h2]at h;exact absurd rfl h
  rw[Z3 h2]at h ⊢;dsimp only at h ⊢;by_cases h3:(YE k (b.drop (Y5 b).1.2)).2≠0
  ·rw[ZU h3]
  ·rw[Z3 h3]at h;exact absurd rfl h
theorem FL{b:List UInt8}(h:(Y5 b).2=0):(Y5 b).1.2≤b.length:=by
 unfold Y5 at h ⊢;by_cases h1:b.length<4
 ·rw[ZU h1]at h;cases h
 rw[Z3 h1]at h ⊢;by_cases h2:at8 b 0/32≠4
 ·rw[ZU h2]at h;cases h
 rw[Z3 h2]at h ⊢;by_cases h3:(Xr b).2=false
 ·rw[ZU h3]at h;cases h
 rw[Z3 h3]at h ⊢;by_cases h4:(Xr b).1=200∨(Xr b).1=201
 ·rw[ZU h4]at h ⊢;unfold XV at h ⊢;by_cases h5:(right b).2≠0
  ·rw[ZU h5]at h;exact absurd h h5
  ·rw[Z3 h5];have:=Gg (b:=b) Zo;show(right b).1≤_;rw[this.2.2.2.1];exact this.2.2.2.2
 rw[Z3 h4]at h ⊢;dsimp only at h ⊢;by_cases h5:(XG b (Xr b).1).2=false
 ·rw[ZU h5]at h;cases h
 rw[Z3 h5]at h ⊢;by_cases h6:b.length<(XG b (Xr b).1).1
 ·rw[ZU h6]at h;cases h
 rw[Z3 h6];show(XG b (Xr b).1).1≤_;omega
def mJ:Value→Nat
 | .slice _ n _=>n
 | _=>0
theorem XS{w w':World}{row:Option Nat}(hg:w.grownBy w' row):Fr w (fun k=>row=some k) w w':=⟨hg.os,hg.tape,hg.output,hg.size,fun k hk hs=>hg.block k hk (fun e=>hs e.symm)⟩
theorem Y7{base:Nat}{e e2:TypeId}{size:Nat}{v:Value}{n:Nat}{xs:List Value}{w:World}(h:w.ownsRow base e size v n xs)(WN:e2≠e):∀k c fr,v.ownBlock=some k→w.heap[k]?≠some (.cells c e2 fr):=by
 intro k c fr hk hc;obtain⟨_,h⟩:=h;rcases h with⟨rfl,_⟩|⟨g,cap,cur,rfl,hg,hh,_⟩
 ·cases hk
 ·have hk:some g=some k:=hk;cases hk;rw[hh]at hc;injection hc with hc
  injection hc with _ hc
  exact WN hc.symm
theorem Ue.wJ{w w':World}{x:RF}{S:Nat→Prop}(h:Ue w x)(hf:Fr w S w w')(h1:∀k c fr,S k→w.heap[k]?≠some (.cells c 228 fr))(h2:∀k c fr,S k→w.heap[k]?≠some (.cells c 66 fr))(h3:∀k c fr,S k→w.heap[k]?≠some (.cells c 226 fr)):Ue w' x:=
 ⟨Row.fr h.b hf (Zw _) h1,Row.fr h.g hf (Zw _) h2,Row.fr h.p hf (Zw _) h3⟩
theorem zx(v:Value)(b:List UInt8)(w:World)(hv:X5 w v b) :
  Calls prog 124 #[v] w fun e w'=>(∃a,e = .returned (.tuple #[a,.int .i64 (Yq b).2])∧YH w' a (Yq b).1)∧Below w w w':=by
 have HX:Hid (Yq b=if 512<b.length then([],5)else YE 8 b):=rfl;have HV:Hid (∀w',Below w w w'→X5 w' v b):=fun w' h=>hv.below h
 have hlen:=hv.len;obtain⟨va,c,rfl,RV,-⟩:=id hv;clear hv RV;generalize Yq b=X at *
 by_cases h1:512<b.length
 ·rw[ZU h1]at HX;clear HV;go_enter func124,ntmps124;go_wp2_with fail
  go_ret2
  exact⟨⟨.slice none 0 0,by rw[HX.o];rfl,by rw[HX.o];exact YH.nil _⟩,YI _ _⟩
 rw[Z3 h1]at HX
 have DZ:Hid (YE 8 b=comb [] (YE (8-0) b)):=by
  show _=_;unfold comb;by_cases h:(YE 8 b).2≠0
  ·rw[ZU h];obtain⟨y,hy⟩:∃y,y=YE 8 b:=⟨_,rfl⟩;exact Iu h
  ·rw[Z3 h];have h:(YE 8 b).2=0:=by omega
   show YE 8 b=([]++(YE 8 b).1,0);rw[Hz,←h]
 go_enter func124,ntmps124;go_upto_region 4 with fail
 go_loopw [0,4] (fun s0 s4 w'=>∃(j:Nat) (r:List UInt8) (ra:Option Addr) (rc:Nat) (L:List RF),j≤8∧L.length=j∧r.length≤512∧s0 = .slice ra r.length rc∧mJ s4=j∧Below w w w'∧w'.ownsRow w 173 10 s4 j (L.flatMap YU)∧(∀x∈L,Ue w' x)∧Hid (∀w'',Below w w w''→X5 w'' (.slice ra r.length rc) r)∧Hid (YE 8 b=comb (L.map (·.i)) (YE (8-j) r))) (fun _ s4 _=>8-mJ s4)
 case atStart=>exact⟨0,b,va,c,[],TH _,rfl,Zo,rfl,rfl,YI _ _,TV _ _ _ _,fun _ h=>by(exact absurd h Zi),HV.o,DZ.o⟩
 case round=>
  clear DZ HV;obtain⟨j,r,ra,rc,L,hj,hLj,hr,rfl,-,Xz,YG,Pt,HR,HG⟩:=hrel;obtain⟨oa,oc,rfl,-,-⟩:=Row.Z4 YG;have Sv:=Zh Xz;have Yk:=Zh YG;have EZ:=Zh Pt;have Uk:=Xz.size;have HLJ:=Zh hLj;clear Xz YG Pt hLj;by_cases h8:j=8
  ·subst h8;go_wp2_with fail
   go_ret2
   exact⟨⟨.slice none 0 0,by rw[HX.o,HG.o];rfl,by rw[HX.o,HG.o];exact YH.nil _⟩,Sv.o⟩
  have e8:((j:Int)==8)=false:=by rw[WM];omega
  obtain⟨q,hq⟩:∃q,8-j=q+1:=⟨7-j,Zo⟩;rw[hq]at HG;have CI:=Zh (mF _ r wr (HR.o _ Sv.o) hr)
  have dM:r.length≤rc:=by
   have h:=HR.o _ Sv.o;obtain⟨a1,c1,h1,h2,_⟩:=h;injection h1 with _ _ h1
   omega
  have eF:=Zh (FL (b:=r));have HE:=Zh (xW (L.map (·.i)) q (r:=r));have E0:=Zh (Cf (L.map (·.i)) q (r:=r));have HM:=Zh (Cg (L.map (·.i)) q (r:=r));generalize Y5 r=Y at *
  obtain⟨⟨i,n⟩,er⟩:=Y;dsimp only at CI eF HE E0 HM;go_upto_region 7 with(go_at_call 151;refine CI.o.mono ?_;rintro e w2 ⟨⟨a,rfl,hit⟩,Zb⟩;obtain⟨xa,xc,ya,yc,za,zc,ha,L6⟩:=Kz hit;subst ha;have wz:=Zh L6;have Yg:=Zh Zb;clear hit L6 Zb)
  clear CI;by_cases RM:er=0
  ·subst RM;have hnr:n≤r.length:=eF.o AE;obtain⟨a2,Us,-,ZW⟩:=SI (P:=prog) VG ra r.length rc n hnr dM;have Vc:=Zh ZW;have Bb:=Z9 w2 (.cells (Js i xa xc ya yc za zc) 173);have GU:=Yg.o.size;have G':Hid (Below w w (w2.alloc (.cells (Js i xa xc ya yc za zc) 173)).drew):=(ZF (Sv.o.trans (Yg.o.mono Uk)) (Zw _) _).drew;have EX:Hid (Below w w ((w2.alloc (.cells (Js i xa xc ya yc za zc) 173)).drew.alloc (.cells (Js i xa xc ya yc za zc) 173))):=ZF (ZF (Sv.o.trans (Yg.o.mono Uk)) (Zw _) _).drew (Zw _) _;have A9:Below w2 w2 ((w2.alloc (.cells (Js i xa xc ya yc za zc) 173)).drew.alloc (.cells (Js i xa xc ya yc za zc) 173)):=ZF (Z' w2 _).drew (Zw _) _;have NC:=Zh (Yv (Yv Yk.o Yg.o) A9)
   have rM:Hid (∀x∈L++[⟨i,.slice xa i.blocks.length xc,.slice ya i.gone.length yc,.slice za i.Xo.length zc⟩],Ue ((w2.alloc (.cells (Js i xa xc ya yc za zc) 173)).drew.alloc (.cells (Js i xa xc ya yc za zc) 173)) x):=fun x hx=>by
    rcases EN.1 hx with h|h
    ·exact((EZ.o x h).below Yg.o).below A9
    ·rw[J7]at h;subst h;exact wz.o.below A9
   clear A9 ZW;go_upto_region 9 with fail
   refine R5 ?_;refine wp_region_held_drew (S:=(fun w'=>Below w w w')) X_ ?_ (fun X7=>?_)
   ·exact G'.o
   refine YA 0 (h:=YA 4 (h:=YA 5 (h:=YA 6 (h:=?_))));refine R3 1 (h:=fun K hK=>?_);refine Rs Zr 173 (.tmp 5) Zr w2 Zr 173 (Js i xa xc ya yc za zc) (0,0) _ Bb underlying173 rfl X_ ?_;refine hK.out _ _ ?_ (fun XC=>?_)
   ·first|exact P5.o|exact EX.o|exact G'.o
   clear hK K;try simp only[Z_.pt]
   refine R3 2 (h:=fun K hK=>?_);refine Xe Zr GN (.tmp 24) Zr (Js i xa xc ya yc za zc) Zr Zr Zd ?_;refine hK.out _ _ ?_ (fun Vz=>?_)
   ·first|exact P5.o|exact EX.o|exact G'.o
   clear hK K;try simp only[Z_.pt]
   refine R3 3 (h:=fun K hK=>?_);refine Ze Zr (.tmp 23) (.tmp 25) 82 Zr w GN (.slice oa j oc) j (L.flatMap YU) Zr NC.o (.slice (some ⟨(w2.alloc (.cells (Js i xa xc ya yc za zc) 173)).drew.heap.size,0,none⟩) 1 1) 1 (Js i xa xc ya yc za zc) Zr (VA (w2.alloc (.cells (Js i xa xc ya yc za zc) 173)).drew 173 1 (Js i xa xc ya yc za zc) Zd) rfl (by intro u hu;simp only[J9,List.mem_nil_iff,or_false]at hu;rcases hu with rfl|rfl|rfl|rfl|rfl|rfl|rfl|rfl|rfl|rfl <;> rfl) Zo Zo EX.o.size ?_;intro v' w5 HO eB;have HFG:=Zh (XS eB.o);obtain⟨va',vc',hva',-,-⟩:=Row.Z4 HO.o;subst hva';have P5:Hid (Below w w w5):=EX.o.trans (Fr.below (HFG.o.mono EX.o.size (fun k hk hs=>absurd (KP NC.o k hs) Zo)));refine hK.out _ _ ?_ (fun N1=>?_)
   ·first|exact P5.o|exact EX.o|exact G'.o
   clear hK K;try simp only[Z_.pt]
   refine YA 7 (h:=YA 8 (h:=?_));refine wpAnyH_done X_ ?_ _;refine QZ ?_;have bG:Hid (∀x∈L++[⟨i,.slice xa i.blocks.length xc,.slice ya i.gone.length yc,.slice za i.Xo.length zc⟩],Ue w5 x):=fun x hx=>(rM.o x hx).wJ HFG.o (Y7 NC.o Zd) (Y7 NC.o Zd) (Y7 NC.o Zd)
   have HFL:Hid ((L++[(⟨i,.slice xa i.blocks.length xc,.slice ya i.gone.length yc,.slice za i.Xo.length zc⟩:RF)]).flatMap YU=L.flatMap YU++[.int .i64 i.kind,.int .u32 i.Yl,.int .u64 i.Ep,.int .u32 i.time,.int .u32 i.Wk,.int .u32 i.octets,.slice xa i.blocks.length xc,.slice ya i.gone.length yc,.int .u32 i.XT,.slice za i.Xo.length zc]):=by
    show _=_;rw[OD];rfl
   clear X7 XC Vz N1 rM HFG NC G' EX Yk EZ Bb;by_cases hl:r.length-n=0
   ·rw[hl];go_wp2_with fail
    go_ret2
    refine⟨⟨.slice va' (j+1) vc',by rw[HX.o,HG.o,E0.o AE hl];rfl,?_⟩,P5.o⟩;rw[HX.o,HG.o,E0.o AE hl];refine⟨L++[⟨i,.slice xa i.blocks.length xc,.slice ya i.gone.length yc,.slice za i.Xo.length zc⟩],by rw[Nv];rfl,?_,bG.o⟩;rw[HFL.o,UG,HLJ.o];exact Row.Z4 HO.o
   ·have bl:(((r.length-n:Nat):Int)==0)=false:=by rw[WM];omega
    have sy:(r.drop n).length=r.length-n:=Ra;go_wp2_with fail
    go_roundw
    case rel=>
     refine⟨j+1,r.drop n,a2,rc-n,L++[⟨i,.slice xa i.blocks.length xc,.slice ya i.gone.length yc,.slice za i.Xo.length zc⟩],Zo,by rw[UG,HLJ.o];rfl,Zo,by rw[sy],rfl,P5.o,by rw[HFL.o];exact HO.o,bG.o,?_,?_⟩
     ·intro w'' h;have h5:=Vc.o w'' (Rx r) (by rw[Xg,Nat.mul_one]) (HR.o w'' h);rw[Nat.mul_one,QA]at h5;show XM _ _ (r.drop n).length _;rw[sy];exact h5
     ·show _=_;rw[HG.o,HM.o AE hl,Nv,show 8-(j+1)=q by omega];rfl
    case measure=>show 8-(j+1)<8-j;omega
  ·have bl:(er !=0)=true:=by rw[RH];exact RM
   have bl2:(er==0)=false:=by rw[WM];exact RM
   go_wp2_with fail
   go_ret2
   exact⟨⟨.slice none 0 0,by rw[HX.o,HG.o,HE.o RM];rfl,by rw[HX.o,HG.o,HE.o RM];exact YH.nil _⟩,ZF (Sv.o.trans (Yg.o.mono Uk)) (Zw _) _⟩
theorem D7(v:Value)(n:Nat)(xs:List Value)(w:World)(hv:Row w 173 v n xs)(hx:xs.length=n*10)(h1:∀u∈xs,u.oneCell'=true)(hl:n≤1000000) :
  Calls prog 157 #[v] w fun e w'=>(∃v',e = .returned v'∧w'.ownsRow w 173 10 v' n xs)∧Below w w w':=by
 obtain⟨a,cap,rfl,SF,NK,SQ,Li⟩:=id hv;have HV:=Zh hv;have HN:=Zh SQ;have jV:=Zh hx;have jI:=Zh h1;clear hv Li SF NK SQ hx h1;cases a with
 | none=>
  obtain⟨h1,h2⟩:=HN.o rfl;have HL:Hid (xs=[]):=AH (by rw[jV.o,h1]);have he:=fun w=>Lib.run_eql_slice_nil (P:=prog) w 82 173 none n cap 0 0 underlying82
  have HH1:=Zh h1;clear h1 h2;go_enter func157,ntmps157;exact fx
 | some a=>
  have he:=fun w=>Lib.run_eql_slice_nil (P:=prog) w 82 173 (some a) n cap 0 0 underlying82
  clear HN;go_enter func157,ntmps157;go_wp2_with (at_builtin;refine YO rfl (.tmp 5) (.tmp 6) 82 rfl w GN _ 0 [] rfl (SG w 173 10) _ n xs rfl (HV.o.below (Z' _ _)) jV.o jI.o Zo Zo Zi (fun v' w1 HO HG=>?_))
  go_ret
  have hb:=((Fr.refl w Pz w).alloc (Zw _) (.cells #[] 173)).grown HG.o Zi (by
   intro k hk;have hk:some w.heap.size=some k:=hk;cases hk
   exact Zw _)
  exact fB
theorem DW(v:Value)(n:Nat)(xs:List Value)(w:World)(hv:Row w 228 v n xs)(hx:xs.length=n*7)(h1:∀u∈xs,u.oneCell'=true)(hl:n≤1000000) :
  Calls prog 158 #[v] w fun e w'=>(∃v',e = .returned v'∧w'.ownsRow w 228 7 v' n xs)∧Below w w w':=by
 obtain⟨a,cap,rfl,SF,NK,SQ,Li⟩:=id hv;have HV:=Zh hv;have HN:=Zh SQ;have jV:=Zh hx;have jI:=Zh h1;clear hv Li SF NK SQ hx h1;cases a with
 | none=>
  obtain⟨h1,h2⟩:=HN.o rfl;have HL:Hid (xs=[]):=AH (by rw[jV.o,h1]);have he:=fun w=>Lib.run_eql_slice_nil (P:=prog) w 170 228 none n cap 0 0 underlying170
  have HH1:=Zh h1;clear h1 h2;go_enter func158,ntmps158;exact fx
 | some a=>
  have he:=fun w=>Lib.run_eql_slice_nil (P:=prog) w 170 228 (some a) n cap 0 0 underlying170
  clear HN;go_enter func158,ntmps158;go_wp2_with (at_builtin;refine YO rfl (.tmp 5) (.tmp 6) 170 rfl w Mt _ 0 [] rfl (SG w 228 7) _ n xs rfl (HV.o.below (Z' _ _)) jV.o jI.o Zo Zo Zi (fun v' w1 HO HG=>?_))
  go_ret
  have hb:=((Fr.refl w Pz w).alloc (Zw _) (.cells #[] 228)).grown HG.o Zi (by
   intro k hk;have hk:some w.heap.size=some k:=hk;cases hk
   exact Zw _)
  exact fB
theorem D9(v:Value)(n:Nat)(xs:List Value)(w:World)(hv:Row w 66 v n xs)(hx:xs.length=n*1)(h1:∀u∈xs,u.oneCell'=true)(hl:n≤1000000) :
  Calls prog 112 #[v] w fun e w'=>(∃v',e = .returned v'∧w'.ownsRow w 66 1 v' n xs)∧Below w w w':=by
 obtain⟨a,cap,rfl,SF,NK,SQ,Li⟩:=id hv;have HV:=Zh hv;have HN:=Zh SQ;have jV:=Zh hx;have jI:=Zh h1;clear hv Li SF NK SQ hx h1;cases a with
 | none=>
  obtain⟨h1,h2⟩:=HN.o rfl;have HL:Hid (xs=[]):=AH (by rw[jV.o,h1]);have he:=fun w=>Lib.run_eql_slice_nil (P:=prog) w 29 66 none n cap 0 0 underlying29
  have HH1:=Zh h1;clear h1 h2;go_enter func112,ntmps112;exact fx
 | some a=>
  have he:=fun w=>Lib.run_eql_slice_nil (P:=prog) w 29 66 (some a) n cap 0 0 underlying29
  clear HN;go_enter func112,ntmps112;go_wp2_with (at_builtin;refine YO rfl (.tmp 5) (.tmp 6) 29 rfl w Vo _ 0 [] rfl (SG w 66 1) _ n xs rfl (HV.o.below (Z' _ _)) jV.o jI.o Zo Zo Zi (fun v' w1 HO HG=>?_))
  go_ret
  have hb:=((Fr.refl w Pz w).alloc (Zw _) (.cells #[] 66)).grown HG.o Zi (by
   intro k hk;have hk:some w.heap.size=some k:=hk;cases hk
   exact Zw _)
  exact fB
theorem D8(v:Value)(n:Nat)(xs:List Value)(w:World)(hv:Row w 226 v n xs)(hx:xs.length=n*2)(h1:∀u∈xs,u.oneCell'=true)(hl:n≤1000000) :
  Calls prog 159 #[v] w fun e w'=>(∃v',e = .returned v'∧w'.ownsRow w 226 2 v' n xs)∧Below w w w':=by
 obtain⟨a,cap,rfl,SF,NK,SQ,Li⟩:=id hv;have HV:=Zh hv;have HN:=Zh SQ;have jV:=Zh hx;have jI:=Zh h1;clear hv Li SF NK SQ hx h1;cases a with
 | none=>
  obtain⟨h1,h2⟩:=HN.o rfl;have HL:Hid (xs=[]):=AH (by rw[jV.o,h1]);have he:=fun w=>Lib.run_eql_slice_nil (P:=prog) w 171 226 none n cap 0 0 underlying171
  have HH1:=Zh h1;clear h1 h2;go_enter func159,ntmps159;exact fx
 | some a=>
  have he:=fun w=>Lib.run_eql_slice_nil (P:=prog) w 171 226 (some a) n cap 0 0 underlying171
  clear HN;go_enter func159,ntmps159;go_wp2_with (at_builtin;refine YO rfl (.tmp 5) (.tmp 6) 171 rfl w Kj _ 0 [] rfl (SG w 226 2) _ n xs rfl (HV.o.below (Z' _ _)) jV.o jI.o Zo Zo Zi (fun v' w1 HO HG=>?_))
  go_ret
  have hb:=((Fr.refl w Pz w).alloc (Zw _) (.cells #[] 226)).grown HG.o Zi (by
   intro k hk;have hk:some w.heap.size=some k:=hk;cases hk
   exact Zw _)
  exact fB
end Go.Proofs.By
