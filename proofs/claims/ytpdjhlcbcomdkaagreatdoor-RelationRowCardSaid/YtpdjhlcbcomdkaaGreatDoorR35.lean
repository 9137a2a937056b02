/- Part of a proof. -/
import Derived.Test.YtpdjhlcbcomdkaaGreatDoorR34
set_option linter.unusedVariables false
set_option linter.unusedSimpArgs false
set_option maxRecDepth 100000
set_option maxHeartbeats 16000000
open Go Go.Q Go.Qr
namespace Go.Proofs.By
open Go.RowKit Go.Proofs.Heap Go.Proofs
theorem xE (v:Value) (n:Nat) (c:List UInt8) (w:World) (hv:X6 w v c) (hn:n≤1000) :
  Calls Tryz.prog 117 (Q8 200 (n:Int) v) w fun e w'=>(∃ a,e = .returned a∧S8 w' a (Xq 200 n c))∧Below w w w':=by
 have CR:=Zh (fun (p q:Int) (w':World) (h:Below w w w')=>Rj v c p q w' (hv.below h));obtain ⟨ss,Mz⟩:∃ x:Nat,x=get c 0 4:=⟨_,rfl⟩;have lM:=Zh (fun (w':World) (h:Below w w w')=>CR.o 0 4 w' h);rw [←Mz] at lM;have bss:IntKind.u32.wrap (ss:Int)=(ss:Int):=by have:=WW c 0;rw [NI];omega
 obtain ⟨nt,hnt⟩:∃ x:Nat,x=get c 4 8:=⟨_,rfl⟩;have Cnt:=Zh (fun (w':World) (h:Below w w w')=>CR.o 4 8 w' h);rw [←hnt] at Cnt;obtain ⟨tm,dR⟩:∃ x:Nat,x=get c 12 4:=⟨_,rfl⟩;have Ctm:=Zh (fun (w':World) (h:Below w w w')=>CR.o 12 4 w' h);rw [←dR] at Ctm;have btm:IntKind.u32.wrap (tm:Int)=(tm:Int):=by have:=WW c 12;rw [NI];omega
 obtain ⟨pk,yC⟩:∃ x:Nat,x=get c 16 4:=⟨_,rfl⟩;have Cpk:=Zh (fun (w':World) (h:Below w w w')=>CR.o 16 4 w' h);rw [←yC] at Cpk;have bpk:IntKind.u32.wrap (pk:Int)=(pk:Int):=by have:=WW c 16;rw [NI];omega
 obtain ⟨oc,hoc⟩:∃ x:Nat,x=get c 20 4:=⟨_,rfl⟩;have Coc:=Zh (fun (w':World) (h:Below w w w')=>CR.o 20 4 w' h);rw [←hoc] at Coc;have boc:IntKind.u32.wrap (oc:Int)=(oc:Int):=by have:=WW c 20;rw [NI];omega
 have HX:Hid (Xq 200 n c=⟨200,(ss:Int),(nt:Int),(tm:Int),(pk:Int),(oc:Int),Vd c 24 n,[],0,[]⟩):=by
  show _=_;unfold Xq;rw [Mz,hnt,dR,yC,hoc];simp
 generalize Xq 200 n c=X at *
 clear Mz hnt dR yC hoc;have H1:Hid (GI w (((w.alloc (.cells YZ 173)).alloc (.cells YZ 173)).setRow (w.heap.size+1) nu) Yz10):=GI.start w 200
 have hz:((w.alloc (.cells YZ 173)).alloc (.cells YZ 173)).heap[w.heap.size+1]?=some (.cells YZ 173 (0,0)):=by
  exact rO
 clear hv;go_enter Tryz.func117,Tryz.ntmps117;go_upto_region 2 with (with_reducible refine ZU 173 (.tmp 7) (.tmp 11) rfl ?_;refine ZV rfl 173 (.tmp 7) (.tmp 11) rfl rfl (w.heap.size+1) nu rfl rfl 173 YZ hz ZB ZB ZB ?_)
 clear hz;generalize ((w.alloc (.cells YZ 173)).alloc (.cells YZ 173)).setRow (w.heap.size+1) nu=w1 at *
 have z1:=cell_of H1.o.Y8 1;simp only [SE,SD,R8] at z1;have f1:=ZO H1.o.Y8 1;go_upto_region 5 with (go_at_call 118;refine (lM.o _ H1.o.Zg).mono ?_;rintro e w' ⟨rfl,rfl⟩)
 have H2:Hid (GI w (w1.setCell ⟨w.heap.size+1,1,none⟩ (.int .u32 (ss:Int))) (Qe 200 (ss:Int) 0 0 0 0 none 0 0 none 0 0 0 none 0 0)):=H1.o.set 1 (.int .u32 (ss:Int));clear z1 f1;generalize w1.setCell ⟨w.heap.size+1,1,none⟩ (.int .u32 (ss:Int))=w2 at *
 have z2:=cell_of H2.o.Y8 2;simp only [SE,SD,R8] at z2;have f2:=ZO H2.o.Y8 2;go_upto_region 8 with (go_at_call 118;refine (Cnt.o _ H2.o.Zg).mono ?_;rintro e w' ⟨rfl,rfl⟩)
 have H3:Hid (GI w (w2.setCell ⟨w.heap.size+1,2,none⟩ (.int .u64 (nt:Int))) (Qe 200 (ss:Int) (nt:Int) 0 0 0 none 0 0 none 0 0 0 none 0 0)):=H2.o.set 2 (.int .u64 (nt:Int));clear z2 f2;generalize w2.setCell ⟨w.heap.size+1,2,none⟩ (.int .u64 (nt:Int))=w3 at *
 have z3:=cell_of H3.o.Y8 3;simp only [SE,SD,R8] at z3;have f3:=ZO H3.o.Y8 3;go_upto_region 9 with (go_at_call 118;refine (Ctm.o _ H3.o.Zg).mono ?_;rintro e w' ⟨rfl,rfl⟩)
 have H4:Hid (GI w (w3.setCell ⟨w.heap.size+1,3,none⟩ (.int .u32 (tm:Int))) (Qe 200 (ss:Int) (nt:Int) (tm:Int) 0 0 none 0 0 none 0 0 0 none 0 0)):=H3.o.set 3 (.int .u32 (tm:Int));clear z3 f3;generalize w3.setCell ⟨w.heap.size+1,3,none⟩ (.int .u32 (tm:Int))=w4 at *
 have z4:=cell_of H4.o.Y8 4;simp only [SE,SD,R8] at z4;have f4:=ZO H4.o.Y8 4;go_upto_region 10 with (go_at_call 118;refine (Cpk.o _ H4.o.Zg).mono ?_;rintro e w' ⟨rfl,rfl⟩)
 have H5:Hid (GI w (w4.setCell ⟨w.heap.size+1,4,none⟩ (.int .u32 (pk:Int))) (Qe 200 (ss:Int) (nt:Int) (tm:Int) (pk:Int) 0 none 0 0 none 0 0 0 none 0 0)):=H4.o.set 4 (.int .u32 (pk:Int));clear z4 f4;generalize w4.setCell ⟨w.heap.size+1,4,none⟩ (.int .u32 (pk:Int))=w5 at *
 have z5:=cell_of H5.o.Y8 5;simp only [SE,SD,R8] at z5;have f5:=ZO H5.o.Y8 5;go_upto_region 11 with (go_at_call 118;refine (Coc.o _ H5.o.Zg).mono ?_;rintro e w' ⟨rfl,rfl⟩)
 have H6:Hid (GI w (w5.setCell ⟨w.heap.size+1,5,none⟩ (.int .u32 (oc:Int))) (Qe 200 (ss:Int) (nt:Int) (tm:Int) (pk:Int) (oc:Int) none 0 0 none 0 0 0 none 0 0)):=H5.o.set 5 (.int .u32 (oc:Int));clear z5 f5;generalize w5.setCell ⟨w.heap.size+1,5,none⟩ (.int .u32 (oc:Int))=w6 at *
 go_wp2_with fail
 go_loopw [8,9] (fun s8 s9 w'=>∃ (i pos:Nat) (a:Option Addr) (q:Nat),i≤n∧pos=24+24*i∧s9 = .int .i64 (i:Int)∧s8 = .int .i64 (pos:Int)∧GI w w' (Qe 200 (ss:Int) (nt:Int) (tm:Int) (pk:Int) (oc:Int) a i q none 0 0 0 none 0 0)∧w'.ownsRow w 228 7 (.slice a i q) i ((Vd c 24 i).flatMap Xb)) (fun _ s9 _=>n-(intOf s9).toNat)
 case atStart=>exact ⟨0,24,none,0,Zo,Zo,rfl,rfl,H6.o,TY _ _ _ _⟩
 case round=>
  obtain ⟨i,pos,a,q,hi,QF,rfl,rfl,Ed,YH⟩:=hrel;have HG:=Zh Ed;have HO:=Zh YH;clear Ed YH H6;by_cases GA:i<n
  ·obtain ⟨x0,QI⟩:∃ x:Nat,x=get c (pos:Int) 4:=⟨_,rfl⟩;obtain ⟨x1,SJ⟩:∃ x:Nat,x=get c ((pos:Int)+4) 1:=⟨_,rfl⟩;obtain ⟨x2,N7⟩:∃ x:Nat,x=get c ((pos:Int)+5) 3:=⟨_,rfl⟩;obtain ⟨x3,Rh⟩:∃ x:Nat,x=get c ((pos:Int)+8) 4:=⟨_,rfl⟩;obtain ⟨x4,LK⟩:∃ x:Nat,x=get c ((pos:Int)+12) 4:=⟨_,rfl⟩;obtain ⟨x5,JF⟩:∃ x:Nat,x=get c ((pos:Int)+16) 4:=⟨_,rfl⟩;obtain ⟨x6,dV⟩:∃ x:Nat,x=get c ((pos:Int)+20) 4:=⟨_,rfl⟩
   have LQ:Hid (Vd c 24 (i+1)=Vd c 24 i++[⟨x0,x1,x2,x3,x4,x5,x6⟩]):=by
    show _=_;rw [QI,SJ,N7,Rh,LK,JF,dV,QF];unfold Vd;rw [qE,NR];rfl
   have C0:=Zh (fun (w':World) (h:Below w w w')=>CR.o (pos:Int) 4 w' h);rw [←QI] at C0;have NT:IntKind.u32.wrap (x0:Int)=(x0:Int):=by have:=WW c (pos:Int);rw [NI];omega
   have C1:=Zh (fun (w':World) (h:Below w w w')=>CR.o ((pos:Int)+4) 1 w' h);rw [←SJ] at C1;have YY:IntKind.u8.wrap (x1:Int)=(x1:Int):=by have:=uy c ((pos:Int)+4);rw [IntKind.wrap_u8];omega
   have Ei:IntKind.i64.wrap ((pos:Int)+4)=(pos:Int)+4:=Tm _ Zo;have C2:=Zh (fun (w':World) (h:Below w w w')=>CR.o ((pos:Int)+5) 3 w' h);rw [←N7] at C2;have Y7:IntKind.u32.wrap (x2:Int)=(x2:Int):=by have:=uz c ((pos:Int)+5);rw [NI];omega
   have hp2:IntKind.i64.wrap ((pos:Int)+5)=(pos:Int)+5:=Tm _ Zo;have C3:=Zh (fun (w':World) (h:Below w w w')=>CR.o ((pos:Int)+8) 4 w' h);rw [←Rh] at C3;have VJ:IntKind.u32.wrap (x3:Int)=(x3:Int):=by have:=WW c ((pos:Int)+8);rw [NI];omega
   have hp3:IntKind.i64.wrap ((pos:Int)+8)=(pos:Int)+8:=Tm _ Zo;have C4:=Zh (fun (w':World) (h:Below w w w')=>CR.o ((pos:Int)+12) 4 w' h);rw [←LK] at C4;have Oj:IntKind.u32.wrap (x4:Int)=(x4:Int):=by have:=WW c ((pos:Int)+12);rw [NI];omega
   have hp4:IntKind.i64.wrap ((pos:Int)+12)=(pos:Int)+12:=Tm _ Zo;have C5:=Zh (fun (w':World) (h:Below w w w')=>CR.o ((pos:Int)+16) 4 w' h);rw [←JF] at C5;have MI:IntKind.u32.wrap (x5:Int)=(x5:Int):=by have:=WW c ((pos:Int)+16);rw [NI];omega
   have hp5:IntKind.i64.wrap ((pos:Int)+16)=(pos:Int)+16:=Tm _ Zo;have C6:=Zh (fun (w':World) (h:Below w w w')=>CR.o ((pos:Int)+20) 4 w' h);rw [←dV] at C6;have Ec:IntKind.u32.wrap (x6:Int)=(x6:Int):=by have:=WW c ((pos:Int)+20);rw [NI];omega
   have hp6:IntKind.i64.wrap ((pos:Int)+20)=(pos:Int)+20:=Tm _ Zo;have gX:IntKind.i64.wrap ((pos:Int)+24)=(pos:Int)+24:=Tm _ Zo;have Ej:pos≤100000:=by omega
   have NL:=Zh QF;clear QF QI SJ N7 Rh LK JF dV;go_upto_region 19 with fail
   have HG:=Zh (HG.o.below (YJ _ _).drew);have HO:=Zh (Yw HO.o (YJ _ _).drew);have k0:(wr.drew).cell? ⟨w.heap.size+1,6,none⟩=some (.slice a i q):=Zc HG.o.Y8 6 rfl;refine SX ?_;refine Z_.Zy (d:=40) (S:=(fun w'=>w'.cell? ⟨w.heap.size+1,6,none⟩=some (.slice a i q))) ZB ?_ (fun _=>?_)
   ·(try dsimp only)
    exact k0
   refine YP 0 (h:=YP 2 (h:=YP 3 (h:=YP 6 (h:=YP 7 (h:=YP 8 (h:=YP 11 (h:=YP 12 (h:=YP 13 (h:=YP 16 (h:=YP 17 (h:=YP 18 (h:=YP 21 (h:=YP 22 (h:=YP 23 (h:=YP 26 (h:=YP 27 (h:=YP 28 (h:=YP 31 (h:=YP 32 (h:=YP 33 (h:=YK 1 (h:=?_))))))))))))))))))))));refine YR 4 (h:=fun K hK=>?_);go_simp;refine (C0.o _ HG.o.Zg).mono ?_;rintro e w' ⟨rfl,rfl⟩;go_wp2_with fail
   refine Z_.Zb hK _ _ ?_ (fun _=>?_)
   ·(try dsimp only)
    first|exact k2|exact k1|exact k0
   clear hK K;try simp only [Z_.pt]
   refine YP 5 (h:=?_);refine YR 9 (h:=fun K hK=>?_);go_simp;refine (C1.o _ HG.o.Zg).mono ?_;rintro e w' ⟨rfl,rfl⟩;go_wp2_with fail
   refine Z_.Zb hK _ _ ?_ (fun _=>?_)
   ·(try dsimp only)
    first|exact k2|exact k1|exact k0
   clear hK K;try simp only [Z_.pt]
   refine YP 10 (h:=?_);refine YR 14 (h:=fun K hK=>?_);go_simp;refine (C2.o _ HG.o.Zg).mono ?_;rintro e w' ⟨rfl,rfl⟩;go_wp2_with fail
   refine Z_.Zb hK _ _ ?_ (fun _=>?_)
   ·(try dsimp only)
    first|exact k2|exact k1|exact k0
   clear hK K;try simp only [Z_.pt]
   refine YP 15 (h:=?_);refine YR 19 (h:=fun K hK=>?_);go_simp;refine (C3.o _ HG.o.Zg).mono ?_;rintro e w' ⟨rfl,rfl⟩;go_wp2_with fail
   refine Z_.Zb hK _ _ ?_ (fun _=>?_)
   ·(try dsimp only)
    first|exact k2|exact k1|exact k0
   clear hK K;try simp only [Z_.pt]
   refine YP 20 (h:=?_);refine YR 24 (h:=fun K hK=>?_);go_simp;refine (C4.o _ HG.o.Zg).mono ?_;rintro e w' ⟨rfl,rfl⟩;go_wp2_with fail
   refine Z_.Zb hK _ _ ?_ (fun _=>?_)
   ·(try dsimp only)
    first|exact k2|exact k1|exact k0
   clear hK K;try simp only [Z_.pt]
   refine YP 25 (h:=?_);refine YR 29 (h:=fun K hK=>?_);go_simp;refine (C5.o _ HG.o.Zg).mono ?_;rintro e w' ⟨rfl,rfl⟩;go_wp2_with fail
   refine Z_.Zb hK _ _ ?_ (fun _=>?_)
   ·(try dsimp only)
    first|exact k2|exact k1|exact k0
   clear hK K;try simp only [Z_.pt]
   refine YP 30 (h:=?_);refine YR 34 (h:=fun K hK=>?_);go_simp;refine (C6.o _ HG.o.Zg).mono ?_;rintro e w' ⟨rfl,rfl⟩;go_wp2_with fail
   refine Z_.Zb hK _ _ ?_ (fun _=>?_)
   ·(try dsimp only)
    first|exact k2|exact k1|exact k0
   clear hK K;try simp only [Z_.pt]
   refine YP 35 (h:=YP 36 (h:=?_));refine YR 37 (h:=fun K hK=>?_);refine Xg Zr MU (.tmp 87) Zr (Qt (x0:Int) (x1:Int) (x2:Int) (x3:Int) (x4:Int) (x5:Int) (x6:Int)) Zr Zr Zd ?_;have HG:=Zh (HG.o.below (Z' wr.drew (.cells (Qt (x0:Int) (x1:Int) (x2:Int) (x3:Int) (x4:Int) (x5:Int) (x6:Int)) 228)));have HO:=Zh (Yw HO.o (Z' wr.drew (.cells (Qt (x0:Int) (x1:Int) (x2:Int) (x3:Int) (x4:Int) (x5:Int) (x6:Int)) 228)));have k1:=cell_of HG.o.Y8 6;simp only [SE,SD,R8] at k1;refine Z_.Zb hK _ _ ?_ (fun _=>?_)
   ·(try dsimp only)
    first|exact k2|exact k1|exact k0
   clear hK K;try simp only [Z_.pt]
   refine YR 38 (h:=fun K hK=>?_);refine Zp Zr (.tmp 52) (.tmp 88) 170 Zr w.heap.size MU (.slice a i q) i ((Vd c 24 i).flatMap Xb) Zr HO.o _ 1 ([(⟨x0,x1,x2,x3,x4,x5,x6⟩:qQ)].flatMap Xb) Zr (Vz wr.drew 228 1 ([(⟨x0,x1,x2,x3,x4,x5,x6⟩:qQ)].flatMap Xb) Zd) rfl (U4 fun x _=>BS x) Zo Zo ?_ ?_
   ·exact HG.o.Zg.size
   intro v' w6 IK yP;obtain ⟨na,nq,NK,-⟩:=Row.Z6 IK.o;subst NK;have HG:=Zh (HG.o.grown HO.o Zd yP.o);have HO:Hid (w6.ownsRow w 228 7 (.slice na (i+1) nq) (i+1) ((Vd c 24 i++[(⟨x0,x1,x2,x3,x4,x5,x6⟩:qQ)]).flatMap Xb)):=(by have h:=IK.o;rw [←OQ] at h;exact h);exact Yx50
  ·have wE:i=n:=by omega
   subst wE;have Sz:=Zh (Row.Z6 HO.o);have TZ:=HG.o.z;have UF:=HG.o.Y8;go_wp2_with (first|(with_reducible refine Zj 173 (.tmp 7) rfl ?_;refine Zf rfl 173 (.tmp 7) rfl (w.heap.size+1) rfl 173 (Qe 200 (ss:Int) (nt:Int) (tm:Int) (pk:Int) (oc:Int) a i q none 0 0 0 none 0 0) (0,0) _ UF Tryz.underlying173 rfl ZB ?_)|(with_reducible refine ZU 173 (.tmp 6) (.tmp 125) rfl ?_;refine ZV rfl 173 (.tmp 6) (.tmp 125) rfl rfl w.heap.size (Qe 200 (ss:Int) (nt:Int) (tm:Int) (pk:Int) (oc:Int) a i q none 0 0 0 none 0 0) rfl rfl 173 YZ TZ ZB ZB ZB ?_))
   refine VD (v:= .agg (Qe 200 (ss:Int) (nt:Int) (tm:Int) (pk:Int) (oc:Int) a i q none 0 0 0 none 0 0)) ?_ rfl ?_
   ·exact results_cell_row Zr _ _ w.heap.size 173 (Qe 200 (ss:Int) (nt:Int) (tm:Int) (pk:Int) (oc:Int) a i q none 0 0 0 none 0 0) (0,0) _ Zr (setRow_heap _ _ _ _ _ _ TZ) Tryz.underlying173 rfl ZB
   refine ⟨⟨_,rfl,?_⟩,Z3 HG.o.Zg (Zw _) _⟩;rw [HX.o];have hr:Uf wr ⟨⟨200,(ss:Int),(nt:Int),(tm:Int),(pk:Int),(oc:Int),Vd c 24 i,[],0,[]⟩,.slice a i q,.slice none 0 0,.slice none 0 0⟩:=⟨by show Row wr _ _ (Vd c 24 i).length _;rw [show (Vd c 24 i).length=i by unfold Vd;rw [TB,List.length_range]];exact Sz.o,Row.nil _ _,Row.nil _ _⟩;have M0:=Uf.setRow hr TZ (Qe 200 (ss:Int) (nt:Int) (tm:Int) (pk:Int) (oc:Int) a i q none 0 0 0 none 0 0);exact ⟨_,_,_,rfl,M0.b,M0.g,M0.p⟩
def long (b:List UInt8):Nat:=at8 b 2*256+at8 b 3
theorem uA {b:List UInt8} (h:4≤b.length):get b 2 2=long b:=by
 match b,h with
 | x0 :: x1 :: x2 :: x3 :: t,_=>
  have hw:within (x0 :: x1 :: x2 :: x3 :: t).length 2 2=true:=within_iff.2 ⟨by decide,by decide,by decide,by simp;omega⟩;unfold get;rw [ZR hw];simp [be,long,at8]
theorem PU {b:List UInt8} {m p q:Nat} (h1:p+q≤m) (h2:4+m≤b.length) (hq:1≤q) (hq8:q≤8):get ((b.drop 4).take m) (p:Int) (q:Int)=get b ((p:Int)+4) (q:Int):=by
 have hl:((b.drop 4).take m).length=m:=by rw [S4,Rg];omega
 have w1:within ((b.drop 4).take m).length (p:Int) (q:Int)=true:=within_iff.2 ⟨Zo,Zo,Zo,by rw [hl];omega⟩;have w2:within b.length ((p:Int)+4) (q:Int)=true:=within_iff.2 ⟨Zo,Zo,Zo,Zo⟩;unfold get;rw [ZR w1,ZR w2]
 congr 1
 have e1:((p:Int)+4).toNat=4+p:=by omega
 have e2:(p:Int).toNat=p:=by omega
 have e3:(q:Int).toNat=q:=by omega
 rw [e1,e2,e3,List.drop_take,List.drop_drop,List.take_take,Nat.min_eq_left Zo]
theorem Cc {b:List UInt8} {n p q:Nat} (h1:p+q≤n) (h2:n≤b.length) (hq:1≤q) (hq8:q≤8):get (b.take n) (p:Int) (q:Int)=get b (p:Int) (q:Int):=by
 have hl:(b.take n).length=n:=by rw [S4];omega
 have w1:within (b.take n).length (p:Int) (q:Int)=true:=within_iff.2 ⟨Zo,Zo,Zo,by rw [hl];omega⟩;have w2:within b.length (p:Int) (q:Int)=true:=within_iff.2 ⟨Zo,Zo,Zo,Zo⟩;unfold get;rw [ZR w1,ZR w2]
 congr 1
 have e2:(p:Int).toNat=p:=by omega
 have e3:(q:Int).toNat=q:=by omega
 rw [e2,e3,List.drop_take,List.take_take,Nat.min_eq_left Zo]
theorem r9 {c:List UInt8} {p:Nat} (h:p+4≤c.length):get c (p:Int) 4=get c (p:Int) 2*65536+get c ((p:Int)+2) 2:=by
 have w1:within c.length (p:Int) 4=true:=within_iff.2 ⟨by decide,by decide,Zo,Zo⟩;have w2:within c.length (p:Int) 2=true:=within_iff.2 ⟨by decide,by decide,Zo,Zo⟩;have w3:within c.length ((p:Int)+2) 2=true:=within_iff.2 ⟨by decide,by decide,Zo,Zo⟩;unfold get;rw [ZR w1,ZR w2,ZR w3];have e1:((p:Int)+2).toNat=p+2:=by omega
 have e2:(p:Int).toNat=p:=by omega
 rw [e1,e2]
 have hd:∃ a0 a1 a2 a3 t,c.drop p=a0 :: a1 :: a2 :: a3 :: t:=by
  have hl:4≤(c.drop p).length:=by rw [Rg];omega
  match c.drop p,hl with
  | a0 :: a1 :: a2 :: a3 :: t,_=>exact ⟨a0,a1,a2,a3,t,rfl⟩
 obtain ⟨a0,a1,a2,a3,t,hd⟩:=hd;have qI:c.drop (p+2)=a2 :: a3 :: t:=by rw [←List.drop_drop,hd];rfl
 rw [hd,qI];show be [a0,a1,a2,a3]=be [a0,a1]*65536+be [a2,a3];simp only [be,List.foldl];omega
def U_ (b:List UInt8) (k:Nat) (n least most:Int):(Ro × Nat) × Int:=
 if n<least∨most<n∨(long b:Int)≠Wp k n.toNat then ((XT,0),1)
 else if b.length<4+4*long b then ((XT,0),2)
 else ((Xq k n.toNat ((b.drop 4).take (4*long b)),4+4*long b),0)
def Lj (b:List UInt8):(Ro × Nat) × Int:=
 if b.length<4 then ((XT,0),2)
 else if at8 b 0 / 32≠4 then ((XT,0),1)
 else if at8 b 1=200∨at8 b 1=201 then U_ b (at8 b 1) (at8 b 0 % 32:Nat) 0 15
 else if at8 b 1=203 then U_ b 203 (at8 b 0 % 32:Nat) 1 15
 else if at8 b 1=205∨at8 b 1=206 then
  (if at8 b 0 % 32≠1 then ((XT,0),4)
  else if at8 b 1=205 then U_ b 205 ((long b:Int)-2) 1 16 else U_ b 206 ((long b:Int)-2) 0 0)
 else ((XT,0),4)
theorem ur {b:List UInt8} {m p:Nat} (h1:p+24≤m) (h2:4+m≤b.length):cx ((b.drop 4).take m) (p:Int)=N1 b (p+4):=by
 have g:∀ d q:Nat,d+q≤24→1≤q→q≤8→get ((b.drop 4).take m) ((p:Int)+(d:Int)) (q:Int)=get b ((p+4+d:Nat):Int) (q:Int):=fun d q hd hq hq8=>by
  have h:=PU (b:=b) (m:=m) (p:=p+d) (q:=q) Zo h2 hq hq8;rw [show ((p:Int)+(d:Int))=((p+d:Nat):Int) by omega,h,show (((p+d:Nat):Int)+4)=((p+4+d:Nat):Int) by omega]
 have e0:get ((b.drop 4).take m) (p:Int) 4=get b ((p+4:Nat):Int) 4:=by
  have h:=PU (b:=b) (m:=m) (p:=p) (q:=4) Zo h2 Zo Zo;have h:get ((b.drop 4).take m) (p:Int) 4=get b ((p:Int)+4) 4:=h;rw [h,show ((p:Int)+4)=((p+4:Nat):Int) by omega]
 have e4:get ((b.drop 4).take m) ((p:Int)+4) 1=get b ((p+4+4:Nat):Int) 1:=g 4 1 Zo Zo Zo;have e5:get ((b.drop 4).take m) ((p:Int)+5) 3=get b ((p+4+5:Nat):Int) 3:=g 5 3 Zo Zo Zo;have e8:get ((b.drop 4).take m) ((p:Int)+8) 4=get b ((p+4+8:Nat):Int) 4:=g 8 4 Zo Zo Zo;have e12:get ((b.drop 4).take m) ((p:Int)+12) 4=get b ((p+4+12:Nat):Int) 4:=g 12 4 Zo Zo Zo;have e16:get ((b.drop 4).take m) ((p:Int)+16) 4=get b ((p+4+16:Nat):Int) 4:=g 16 4 Zo Zo Zo;have e20:get ((b.drop 4).take m) ((p:Int)+20) 4=get b ((p+4+20:Nat):Int) 4:=g 20 4 Zo Zo Zo;unfold cx N1;rw [e0,e4,e5,e8,e12,e16,e20]
theorem xC {b:List UInt8} {m:Nat} (hm:m=at8 b 0 % 32) (k0:at8 b 1=200∨at8 b 1=201) (hl:long b=Wp (at8 b 1) m) (hb:4+4*long b≤b.length):report b=Xq (at8 b 1) m ((b.drop 4).take (4*long b)):=by
 subst hm;rcases k0 with k|k
 ·have hw:long b=6+6*(at8 b 0 % 32):=by rw [hl,k];rfl
  have g:=fun (p q:Nat) (hp:p+q≤24) (h1:1≤q) (h8:q≤8)=>PU (b:=b) (m:=4*long b) (p:=p) (q:=q) Zo hb h1 h8
  have g0:get ((b.drop 4).take (4*long b)) 0 4=get b 4 4:=g 0 4 Zo Zo Zo;have g4:get ((b.drop 4).take (4*long b)) 4 8=get b 8 8:=g 4 8 Zo Zo Zo;have g12:get ((b.drop 4).take (4*long b)) 12 4=get b 16 4:=g 12 4 Zo Zo Zo;have g16:get ((b.drop 4).take (4*long b)) 16 4=get b 20 4:=g 16 4 Zo Zo Zo;have g20:get ((b.drop 4).take (4*long b)) 20 4=get b 24 4:=g 20 4 Zo Zo Zo
  have W8:Vd ((b.drop 4).take (4*long b)) 24 (at8 b 0 % 32)=(List.range (at8 b 0 % 32)).map fun (i:Nat)=>N1 b (28+24*i):=by
   unfold Vd;refine List.map_congr_left fun i hi=>?_
   rw [List.mem_range] at hi;rw [ur Zo hb]
   congr 1
   omega
  unfold report Xq;rw [k];simp [g0,g4,g12,g16,g20,W8]
 ·have hw:long b=1+6*(at8 b 0 % 32):=by rw [hl,k];rfl
  have g0:get ((b.drop 4).take (4*long b)) 0 4=get b 4 4:=PU (b:=b) (m:=4*long b) (p:=0) (q:=4) Zo hb Zo Zo
  have W8:Vd ((b.drop 4).take (4*long b)) 4 (at8 b 0 % 32)=(List.range (at8 b 0 % 32)).map fun (i:Nat)=>N1 b (8+24*i):=by
   unfold Vd;refine List.map_congr_left fun i hi=>?_
   rw [List.mem_range] at hi;rw [ur Zo hb]
   congr 1
   omega
  unfold report Xq;rw [k];simp [g0,W8]
theorem xB {b:List UInt8} (h1:4≤b.length) (h2:at8 b 0 / 32=4) (k0:at8 b 1=200∨at8 b 1=201):XZ b=U_ b (at8 b 1) (at8 b 0 % 32:Nat) 0 15:=by
 have hg:=uA h1
 have hr:UQ (at8 b 1) (at8 b 0 % 32)=4+4*Wp (at8 b 1) (at8 b 0 % 32):=by
  unfold UQ Wp;rcases k0 with k|k <;> rw [k] <;> simp <;> omega
 have e1:right b=if 15<at8 b 0 % 32∨(get b 2 2+1)*4≠UQ (at8 b 1) (at8 b 0 % 32) then (0,1) else if b.length<UQ (at8 b 1) (at8 b 0 % 32) then (0,2) else (UQ (at8 b 1) (at8 b 0 % 32),0):=by
  unfold right;rw [Z4 Zo,Z4 Zo,Z4 Zo]
 unfold XZ U_;rw [e1,hg,hr,Wz];by_cases NV:15<at8 b 0 % 32∨(long b+1)*4≠4+4*Wp (at8 b 1) (at8 b 0 % 32)
 ·rw [ZR NV,ZR (by dsimp only;decide),ZR Zo]
 ·rw [Z4 NV,Z4 (show ¬(((at8 b 0 % 32:Nat):Int)<0∨(15:Int)<((at8 b 0 % 32:Nat):Int)∨(long b:Int)≠(Wp (at8 b 1) (at8 b 0 % 32):Nat)) by omega)];have hl:long b=Wp (at8 b 1) (at8 b 0 % 32):=by omega
  by_cases hs:b.length<4+4*Wp (at8 b 1) (at8 b 0 % 32)
  ·rw [ZR hs,ZR (by dsimp only;decide),ZR (by rw [hl];exact hs)]
  ·rw [Z4 hs,Z4 (by dsimp only;decide),Z4 (by rw [hl];exact hs),xC rfl k0 hl (by rw [hl];omega),←hl]
theorem Mg {b:List UInt8} {n p:Nat} (hn:n≤b.length) (hp:p≤n):XV (b.take n) p=(List.range ((n-p) / 4)).map fun (i:Nat)=>get b ((p+4*i:Nat):Int) 4:=by
 unfold XV;rw [S4,Nat.min_eq_left hn];refine List.map_congr_left fun i hi=>?_
 rw [List.mem_range] at hi;exact Cc (p:=p+4*i) (q:=4) Zo hn Zo Zo
theorem Kl {b:List UInt8} (hb:4+4*long b≤b.length):parts (b.take (4+4*long b)) 203=Xq 203 (long b) ((b.drop 4).take (4*long b))∧(2≤long b→parts (b.take (4+4*long b)) 205=Xq 205 (long b-2) ((b.drop 4).take (4*long b)))∧(long b=2→parts (b.take (4+4*long b)) 206=Xq 206 0 ((b.drop 4).take (4*long b))):=by
 refine ⟨?_,fun h2=>?_,fun h2=>?_⟩
 ·have e:(XV (b.take (4+4*long b)) 4).map (fun (n:Nat)=>(n:Int))=T6 ((b.drop 4).take (4*long b)) (long b):=by
   rw [Mg hb Zo,List.map_map,show (4+4*long b-4) / 4=long b by omega];unfold T6;refine List.map_congr_left fun i hi=>?_
   rw [List.mem_range] at hi;have h:get ((b.drop 4).take (4*long b)) ((4*i:Nat):Int) 4=get b (((4*i:Nat):Int)+4) 4:=PU (b:=b) (m:=4*long b) (p:=4*i) (q:=4) Zo hb Zo Zo;show ((get b ((4+4*i:Nat):Int) 4:Nat):Int)=_;rw [show ((4+4*i:Nat):Int)=((4*i:Nat):Int)+4 by omega,←h]
  unfold parts;rw [ZR rfl,e];rfl
 ·have g0:get ((b.drop 4).take (4*long b)) 0 4=get (b.take (4+4*long b)) 4 4:=by
   exact fI
  have g4:get ((b.drop 4).take (4*long b)) 4 4=get (b.take (4+4*long b)) 8 4:=by
   exact fJ
  have e:(XV (b.take (4+4*long b)) 12).map (fun (n:Nat)=>(((n / 65536:Nat):Int),((n % 65536:Nat):Int)))=Te ((b.drop 4).take (4*long b)) (long b-2):=by
   rw [Mg hb Zo,List.map_map,show (4+4*long b-12) / 4=long b-2 by omega];unfold Te;refine List.map_congr_left fun i hi=>?_
   rw [List.mem_range] at hi;have h4:=PU (b:=b) (m:=4*long b) (p:=8+4*i) (q:=4) Zo hb Zo Zo;have hs:=r9 (c:=(b.drop 4).take (4*long b)) (p:=8+4*i) (by rw [S4,Rg];omega);have PV:=MX ((b.drop 4).take (4*long b)) (((8+4*i:Nat):Int)+2);show (((get b ((12+4*i:Nat):Int) 4 / 65536:Nat):Int),((get b ((12+4*i:Nat):Int) 4 % 65536:Nat):Int))=_;have e12:((12+4*i:Nat):Int)=((8+4*i:Nat):Int)+4:=by omega
   have h4':get ((b.drop 4).take (4*long b)) ((8+4*i:Nat):Int) 4=get b (((8+4*i:Nat):Int)+4) 4:=h4;rw [e12,←h4',hs];generalize get ((b.drop 4).take (4*long b)) ((8+4*i:Nat):Int) 2=u;generalize get ((b.drop 4).take (4*long b)) (((8+4*i:Nat):Int)+2) 2=v at *
   rw [show (u*65536+v) / 65536=u by omega,show (u*65536+v) % 65536=v by omega]
  unfold parts Xq;rw [Z4 Zd,e];simp only [g0,g4];rfl
 ·have g0:get ((b.drop 4).take (4*long b)) 0 4=get (b.take (4+4*long b)) 4 4:=by
   exact fI
  have g4:get ((b.drop 4).take (4*long b)) 4 4=get (b.take (4+4*long b)) 8 4:=by
   exact fJ
  have e:XV (b.take (4+4*long b)) 12=[]:=by
   rw [Mg hb Zo,show (4+4*long b-12) / 4=0 by omega];rfl
  unfold parts Xq;rw [Z4 Zd,e];simp only [g0,g4];rfl
theorem Ah (b:List UInt8):Y6 b=Lj b:=by
 unfold Lj;by_cases h1:b.length<4
 ·rw [ZR h1];unfold Y6;rw [ZR h1]
 rw [Z4 h1];by_cases h2:at8 b 0 / 32≠4
 ·rw [ZR h2];unfold Y6;rw [Z4 h1,ZR h2]
 rw [Z4 h2];have hg:=uA (b:=b) Zo
 have e0:Y6 b=if (Xv b).2=false then ((XT,0),4) else if (Xv b).1=200∨(Xv b).1=201 then XZ b else
   if (XK b (Xv b).1).2=false then ((XT,0),1) else if b.length<(XK b (Xv b).1).1 then ((XT,0),2) else ((parts (b.take (XK b (Xv b).1).1) (Xv b).1,(XK b (Xv b).1).1),0):=by
  unfold Y6;rw [Z4 h1,Z4 h2]
 by_cases k0:at8 b 1=200∨at8 b 1=201
 ·have hi:Xv b=(at8 b 1,true):=by unfold Xv;rw [ZR Zo]
  rw [ZR k0,e0,hi,Z4 Zi,ZR k0];exact xB Zo Zo k0
 rw [Z4 k0];by_cases k3:at8 b 1=203
 ·have hi:Xv b=(203,true):=by unfold Xv;rw [ZR Zo,k3]
  have hlen:XK b 203=((long b+1)*4,decide (1≤at8 b 0 % 32) && decide (at8 b 0 % 32≤15) && decide ((long b+1)*4=4+4*(at8 b 0 % 32))):=by unfold XK;rw [hg];rfl
  rw [ZR k3,e0,hi,Z4 Zi,Z4 Zd,hlen];have yD:Wp 203 (at8 b 0 % 32)=at8 b 0 % 32:=rfl;unfold U_;rw [Wz,yD];by_cases NV:at8 b 0 % 32<1∨15<at8 b 0 % 32∨long b≠at8 b 0 % 32
  ·rw [ZR (by simp only [Bool.and_eq_false_iff,decide_eq_false_iff_not];omega),ZR (show ((at8 b 0 % 32:Nat):Int)<1∨(15:Int)<((at8 b 0 % 32:Nat):Int)∨(long b:Int)≠((at8 b 0 % 32:Nat):Int) by omega)]
  ·rw [Z4 (by simp only [Bool.and_eq_false_iff,decide_eq_false_iff_not];omega),Z4 (show ¬(((at8 b 0 % 32:Nat):Int)<1∨(15:Int)<((at8 b 0 % 32:Nat):Int)∨(long b:Int)≠((at8 b 0 % 32:Nat):Int)) by omega)];dsimp only;rw [show (long b+1)*4=4+4*long b by omega];by_cases hs:b.length<4+4*long b
   ·rw [ZR hs,ZR hs]
   ·rw [Z4 hs,Z4 hs,(Kl Zo).1,show at8 b 0 % 32=long b by omega]
 rw [Z4 k3];by_cases k5:at8 b 1=205∨at8 b 1=206
 ·rw [ZR k5];have hi:Xv b=(at8 b 1,decide (at8 b 0 % 32=1)):=by unfold Xv;rw [Z4 Zo,ZR k5]
  by_cases hm:at8 b 0 % 32≠1
  ·rw [ZR hm,e0,hi,ZR (by simpa using hm)]
  rw [Z4 hm];have qM:at8 b 0 % 32=1:=by omega
  rw [e0,hi,qM,Z4 Zi,Z4 k0];rcases k5 with k|k
  ·have hlen:XK b 205=((long b+1)*4,decide (16≤(long b+1)*4) && decide ((long b+1)*4≤76)):=by unfold XK;rw [hg];rfl
   rw [k,ZR rfl,hlen];unfold U_;by_cases NV:long b<3∨18<long b
   ·rw [ZR (by simp only [Bool.and_eq_false_iff,decide_eq_false_iff_not];omega),ZR (by rcases NV with h|h;exact Ws Zo;exact Wh (Ws Zo))]
   ·have hn:((long b:Int)-2).toNat=long b-2:=by omega
    have hw:Wp 205 (long b-2)=long b:=by show 2+(long b-2)=long b;omega
    rw [Z4 (by simp only [Bool.and_eq_false_iff,decide_eq_false_iff_not];omega),hn,hw,Z4 (show ¬((long b:Int)-2<1∨(16:Int)<(long b:Int)-2∨(long b:Int)≠((long b:Nat):Int)) by omega)];dsimp only;rw [show (long b+1)*4=4+4*long b by omega];by_cases hs:b.length<4+4*long b
    ·rw [ZR hs,ZR hs]
    ·rw [Z4 hs,Z4 hs,(Kl Zo).2.1 Zo]
  ·have hlen:XK b 206=((long b+1)*4,decide ((long b+1)*4=12)):=by unfold XK;rw [hg];rfl
   rw [k,Z4 (show ¬(206:Nat)=205 by decide)];dsimp only;rw [hlen];unfold U_;by_cases NV:long b≠2
   ·rw [ZR (by simp only [decide_eq_false_iff_not];omega),ZR (by exact Wh (Wh (show (long b:Int)≠((2:Nat):Int) by omega)))]
   ·have hn:((long b:Int)-2).toNat=0:=by omega
    rw [Z4 (by simp only [decide_eq_false_iff_not];omega),hn,Z4 (show ¬((long b:Int)-2<0∨(0:Int)<(long b:Int)-2∨(long b:Int)≠((Wp 206 0:Nat):Int)) by show ¬((long b:Int)-2<0∨(0:Int)<(long b:Int)-2∨(long b:Int)≠((2:Nat):Int));omega)];dsimp only;rw [show (long b+1)*4=4+4*long b by omega];by_cases hs:b.length<4+4*long b
    ·rw [ZR hs,ZR hs]
    ·rw [Z4 hs,Z4 hs,(Kl Zo).2.2 Zo]
 ·rw [Z4 k5];have hi:Xv b=(0,false):=by unfold Xv;rw [Z4 Zo,Z4 k5]
  rw [e0,hi,ZR rfl]
end Go.Proofs.By
namespace Go.Proofs.By
open Go.RowKit Go.Proofs.Heap
open Go.Proofs.Rm (below_drewN)
theorem Po (v:Value) (k n:Nat) (c:List UInt8) (w:World) (hv:X6 w v c) (hn:n≤1000) (hk:k=200∨k=201∨k=203∨k=205∨(k=206∧n=0)) :
  Calls Tryz.prog 117 (Q8 (k:Int) (n:Int) v) w fun e w'=>(∃ a,e = .returned a∧S8 w' a (Xq k n c))∧Below w w w':=by
 rcases hk with rfl|rfl|rfl|rfl|⟨rfl,h0⟩
 ·exact xE v n c w hv hn
 ·exact xD v n c w hv hn
 ·exact tI v n c w hv hn
 ·exact AJ v n c w hv hn
 ·exact tJ v n c w hv hn h0
set_option maxHeartbeats 40000000 in
theorem De (v:Value) (b:List UInt8) (w:World) (hv:X6 w v b) (hb:b.length≤512) :
  Calls Tryz.prog 93 #[v] w fun e w'=>(∃ a,e = .returned (.tuple #[a,.int .i64 ((Y6 b).1.2:Nat),.int .i64 (Y6 b).2])∧S8 w' a (Y6 b).1.1)∧Below w w w':=by
 have HX:Hid (Y6 b=Lj b):=Ah b;have HV:Hid (∀ w',Below w w w'→X6 w' v b):=fun w' h=>hv.below h
 have UD:Hid (∀ w2 er,w2.heap[w.heap.size]?=some (.cells YZ 173 (0,0))→Below w w w2→Y6 b=((XT,0),er)→(∃ a,Ending.returned (.tuple (Qs YZ 0 er)) = .returned (.tuple #[a,.int .i64 ((Y6 b).1.2:Nat),.int .i64 (Y6 b).2])∧S8 (w2.setRow w.heap.size YZ) a (Y6 b).1.1)∧Below w w (w2.setRow w.heap.size YZ)):=fun w2 er h1 h2 h3=>by
  rw [h3];exact ⟨⟨_,rfl,Ns ((Em w2).setRow h1 _)⟩,Z3 h2 (Zw _) _⟩
 have H0:Hid (GI w (((w.alloc (.cells YZ 173)).alloc (.cells YZ 173)).setRow (w.heap.size+1) YZ) Yz1):=GI.start w 0
 have hz:((w.alloc (.cells YZ 173)).alloc (.cells YZ 173)).heap[w.heap.size+1]?=some (.cells YZ 173 (0,0)):=by
  exact rO
 obtain ⟨va,c,rfl,R4,wq⟩:∃ a c,v = .slice a b.length c∧b.length≤c∧c≤maxLen:=by
  obtain ⟨a,c,h1,h2,h3,_⟩:=id hv;exact ⟨a,c,h1,h2,h3⟩
 clear hv;generalize Y6 b=X at *
 go_enter Tryz.func93,Tryz.ntmps93;go_upto_region 2 with (with_reducible refine ZU 173 (.tmp 5) (.tmp 12) rfl ?_;refine ZV rfl 173 (.tmp 5) (.tmp 12) rfl rfl (w.heap.size+1) YZ rfl rfl 173 YZ hz ZB ZB ZB ?_)
 clear hz;generalize ((w.alloc (.cells YZ 173)).alloc (.cells YZ 173)).setRow (w.heap.size+1) YZ=w1 at *
 have H1:=H0;clear H0;by_cases h1:b.length<4
 ·have VA:Hid (X=((XT,0),2)):=by show _=_;rw [HX.o];unfold Lj;rw [ZR h1]
  have l1:decide ((b.length:Int)<4)=true:=Wi Zo;have TZ:=H1.o.z;have UF:=H1.o.Y8;go_wp2_with (first|(with_reducible refine Zj 173 (.tmp 5) rfl ?_;refine Zf rfl 173 (.tmp 5) rfl (w.heap.size+1) rfl 173 YZ (0,0) _ UF Tryz.underlying173 rfl ZB ?_)|(with_reducible refine ZU 173 (.tmp 2) (.tmp 16) rfl ?_;refine ZV rfl 173 (.tmp 2) (.tmp 16) rfl rfl w.heap.size YZ rfl rfl 173 YZ TZ ZB ZB ZB ?_))
  refine VD (v:= .tuple (Qs YZ 0 2)) ?_ rfl ?_
  ·exact bL
  exact UD.o _ 2 TZ H1.o.Zg VA.o
 have l1:decide ((b.length:Int)<4)=false:=WI Zo;obtain ⟨g,off,cap,e1,-,-,hc⟩:=RR (HV.o w1 H1.o.Zg) Zo;cases e1;have d0:=hc 0 Zo;have d1:=hc 1 Zo;have d2:=hc 2 Zo;have d3:=hc 3 Zo;rw [Nat.add_zero] at d0;have i0:(0:Int)<(b.length:Int):=by omega
 have i1:(1:Int)<(b.length:Int):=by omega
 have i2:(2:Int)<(b.length:Int):=by omega
 have i3:(3:Int)<(b.length:Int):=by omega
 have MO:Hid (X=if at8 b 0 / 32≠4 then ((XT,0),1)
  else if at8 b 1=200∨at8 b 1=201 then U_ b (at8 b 1) (at8 b 0 % 32:Nat) 0 15
  else if at8 b 1=203 then U_ b 203 (at8 b 0 % 32:Nat) 1 15
  else if at8 b 1=205∨at8 b 1=206 then
   (if at8 b 0 % 32≠1 then ((XT,0),4)
   else if at8 b 1=205 then U_ b 205 ((long b:Int)-2) 1 16 else U_ b 206 ((long b:Int)-2) 0 0)
  else ((XT,0),4)):=by show _=_;rw [HX.o];unfold Lj;rw [Z4 h1]
 have eZ:Hid (long b=at8 b 2*256+at8 b 3):=rfl;have r0:=Xl b 0;have r1:=Xl b 1;have r2:=Xl b 2;have r3:=Xl b 3;clear hc HX h1;by_cases h2:at8 b 0 / 32≠4
 ·have VA:Hid (X=((XT,0),1)):=by show _=_;rw [MO.o,ZR h2]
  have q:(((at8 b 0:Nat):Int) / 32 != 4)=true:=by rw [RQ];omega
  have TZ:=H1.o.z;have UF:=H1.o.Y8;go_wp2_with (first|(with_reducible refine Zj 173 (.tmp 5) rfl ?_;refine Zf rfl 173 (.tmp 5) rfl (w.heap.size+1) rfl 173 YZ (0,0) _ UF Tryz.underlying173 rfl ZB ?_)|(with_reducible refine ZU 173 (.tmp 2) (.tmp 22) rfl ?_;refine ZV rfl 173 (.tmp 2) (.tmp 22) rfl rfl w.heap.size YZ rfl rfl 173 YZ TZ ZB ZB ZB ?_))
  refine VD (v:= .tuple (Qs YZ 0 1)) ?_ rfl ?_
  ·exact bL
  exact UD.o _ 1 TZ H1.o.Zg VA.o
 have q2:(((at8 b 0:Nat):Int) / 32 != 4)=false:=by rw [bne_eq_false_iff_eq];omega
 rw [Z4 h2] at MO;obtain ⟨x0,QI⟩:∃ x,x=at8 b 0:=⟨_,rfl⟩;obtain ⟨x1,SJ⟩:∃ x,x=at8 b 1:=⟨_,rfl⟩;obtain ⟨x2,N7⟩:∃ x,x=at8 b 2:=⟨_,rfl⟩;obtain ⟨x3,Rh⟩:∃ x,x=at8 b 3:=⟨_,rfl⟩;obtain ⟨Lg,hLg⟩:∃ x,x=long b:=⟨_,rfl⟩;obtain ⟨m,hm⟩:∃ m,m=x0 % 32:=⟨_,rfl⟩;rw [←QI,←SJ,←hLg,←hm] at MO;rw [←QI] at d0 q2 r0;rw [←SJ] at d1 r1;rw [←N7] at d2 r2;rw [←Rh] at d3 r3;have HL0:Lg=x2*256+x3:=by rw [hLg,N7,Rh];exact eZ.o
 have qm:(x0:Int) % 32=(m:Int):=by omega
 have qa:IntKind.i64.wrap ((x2:Int)*256)=(x2:Int)*256:=Tm _ Zo;have qb:IntKind.i64.wrap ((x2:Int)*256+(x3:Int))=(Lg:Int):=by rw [Tm _ Zo];omega
 have qs:IntKind.i64.wrap ((Lg:Int)-2)=(Lg:Int)-2:=Tm _ Zo;have q4:IntKind.i64.wrap (4*(Lg:Int))=4*(Lg:Int):=Tm _ Zo;obtain ⟨Z,hZ⟩:∃ Z:Nat,Z=4+4*Lg:=⟨_,rfl⟩;have q5:IntKind.i64.wrap (4+4*(Lg:Int))=(Z:Int):=by rw [Tm _ Zo];omega
 have hm32:m<32:=by omega
 have hLb:Lg≤70000:=by omega
 have rq:Hid (∀ k n l u,U_ b k n l u=if n<l∨u<n∨(Lg:Int)≠Wp k n.toNat then ((XT,0),1) else if b.length<Z then ((XT,0),2) else ((Xq k n.toNat ((b.drop 4).take (4*Lg)),Z),0)):=fun k n l u=>by unfold U_;rw [←hLg,hZ]
 have HZ:=Zh hZ;clear HL0;have hZ4:4≤Z:=by omega
 clear hZ;generalize U_ b=RP at *
 have HK:x1=200∨x1=201∨x1=203∨x1=205∨x1=206∨(¬x1=200∧¬x1=201∧¬x1=203∧¬x1=205∧¬x1=206):=by omega
 clear eZ QI SJ N7 Rh hLg hm h2;go_upto_region 8 with fail
 go_quiet (fail)
 have H1:=Zh (H1.o.below (below_drewN (YJ _ _) nq));generalize w1.drewN nq=w2 at *
 clear d0 d1 d2 d3;have yi:=Zh (fun (k n:Nat) (hn:n≤100000)=>xL k n w2 hn);rcases HK with Mh|ed|IC|wP|sQ|⟨Mh,ed,IC,wP,sQ⟩
 ·have LR:Hid (X=RP x1 (m:Int) 0 15):=by show _=_;rw [MO.o,ZR Zo]
  rw [rq.o,Wz,Mh] at LR;subst Mh;have CW:=Zh (yi.o 200 m Zo);have yD:Wp 200 m≤1000:=by unfold Wp;simp;omega
  have CW:=CW;generalize Wp 200 m=R at *
  clear MO rq yi;have dl:decide ((m:Int)<0)=false:=WI Zo;by_cases uL:15<m
  ·exact bT
  have dh:decide (15<(m:Int))=false:=WI Zo;by_cases hw:Lg=R
  rotate_left
  ·exact bS
  have lg:Hid (X=if b.length<Z then ((XT,0),2) else ((Xq 200 m ((b.drop 4).take (4*Lg)),Z),0)):=by show _=_;rw [LR.o,Z4 Zo]
  subst hw;by_cases TR:b.length<Z
  ·exact Yx3
  have dz:decide ((b.length:Int)<(Z:Int))=false:=WI Zo;have VA:Hid (X=((Xq 200 m ((b.drop 4).take (4*Lg)),Z),0)):=by show _=_;rw [lg.o,Z4 TR]
  obtain ⟨a',Uw,IB⟩:=Wk (P:=Tryz.prog) VF (some ⟨g,off,none⟩) b.length c 4 Z hZ4 Zo R4
  have Ky:Hid (∀ w',Below w w w'→X6 w' (.slice a' (Z-4) (c-4)) ((b.drop 4).take (4*Lg))):=fun w' h=>by
   exact nj
  have ky:∀ w,(Instr.slice 30 (.slice (some ⟨g,off,none⟩) b.length c) (some (.int .i64 4)) (some (.int .i64 (Z:Int))) none).run Tryz.prog w = .ok (.slice a' (Z-4) (c-4)) w:=Uw;have CI:=Zh (Po _ 200 m _ w2 (Ky.o w2 H1.o.Zg) Zo Zo);generalize Xq 200 m ((b.drop 4).take (4*Lg))=i at *
  exact Yx2
 ·have LR:Hid (X=RP x1 (m:Int) 0 15):=by show _=_;rw [MO.o,ZR Zo]
  rw [rq.o,Wz,ed] at LR;subst ed;have CW:=Zh (yi.o 201 m Zo);have yD:Wp 201 m≤1000:=by unfold Wp;simp;omega
  have CW:=CW;generalize Wp 201 m=R at *
  clear MO rq yi;have dl:decide ((m:Int)<0)=false:=WI Zo;by_cases uL:15<m
  ·exact bT
  have dh:decide (15<(m:Int))=false:=WI Zo;by_cases hw:Lg=R
  rotate_left
  ·exact bS
  have lg:Hid (X=if b.length<Z then ((XT,0),2) else ((Xq 201 m ((b.drop 4).take (4*Lg)),Z),0)):=by show _=_;rw [LR.o,Z4 Zo]
  subst hw;by_cases TR:b.length<Z
  ·exact Yx3
  have dz:decide ((b.length:Int)<(Z:Int))=false:=WI Zo;have VA:Hid (X=((Xq 201 m ((b.drop 4).take (4*Lg)),Z),0)):=by show _=_;rw [lg.o,Z4 TR]
  obtain ⟨a',Uw,IB⟩:=Wk (P:=Tryz.prog) VF (some ⟨g,off,none⟩) b.length c 4 Z hZ4 Zo R4
  have Ky:Hid (∀ w',Below w w w'→X6 w' (.slice a' (Z-4) (c-4)) ((b.drop 4).take (4*Lg))):=fun w' h=>by
   exact nj
  have ky:∀ w,(Instr.slice 30 (.slice (some ⟨g,off,none⟩) b.length c) (some (.int .i64 4)) (some (.int .i64 (Z:Int))) none).run Tryz.prog w = .ok (.slice a' (Z-4) (c-4)) w:=Uw;have CI:=Zh (Po _ 201 m _ w2 (Ky.o w2 H1.o.Zg) Zo Zo);generalize Xq 201 m ((b.drop 4).take (4*Lg))=i at *
  exact Yx2
 ·have LR:Hid (X=RP 203 (m:Int) 1 15):=by show _=_;rw [MO.o,Z4 Zo,ZR IC]
  rw [rq.o,Wz] at LR;subst IC;have CW:=Zh (yi.o 203 m Zo);have yD:Wp 203 m≤1000:=by unfold Wp;simp;omega
  have CW:=CW;generalize Wp 203 m=R at *
  clear MO rq yi;by_cases sA:m<1
  ·have VA:Hid (X=((XT,0),1)):=by show _=_;rw [LR.o,ZR Zo]
   have dl:decide ((m:Int)<1)=true:=Wi Zo;exact bH
  have dl:decide ((m:Int)<1)=false:=WI Zo;by_cases uL:15<m
  ·exact bT
  have dh:decide (15<(m:Int))=false:=WI Zo;by_cases hw:Lg=R
  rotate_left
  ·exact bS
  have lg:Hid (X=if b.length<Z then ((XT,0),2) else ((Xq 203 m ((b.drop 4).take (4*Lg)),Z),0)):=by show _=_;rw [LR.o,Z4 Zo]
  subst hw;by_cases TR:b.length<Z
  ·exact Yx3
  have dz:decide ((b.length:Int)<(Z:Int))=false:=WI Zo;have VA:Hid (X=((Xq 203 m ((b.drop 4).take (4*Lg)),Z),0)):=by show _=_;rw [lg.o,Z4 TR]
  obtain ⟨a',Uw,IB⟩:=Wk (P:=Tryz.prog) VF (some ⟨g,off,none⟩) b.length c 4 Z hZ4 Zo R4
  have Ky:Hid (∀ w',Below w w w'→X6 w' (.slice a' (Z-4) (c-4)) ((b.drop 4).take (4*Lg))):=fun w' h=>by
   exact nj
  have ky:∀ w,(Instr.slice 30 (.slice (some ⟨g,off,none⟩) b.length c) (some (.int .i64 4)) (some (.int .i64 (Z:Int))) none).run Tryz.prog w = .ok (.slice a' (Z-4) (c-4)) w:=Uw;have CI:=Zh (Po _ 203 m _ w2 (Ky.o w2 H1.o.Zg) Zo Zo);generalize Xq 203 m ((b.drop 4).take (4*Lg))=i at *
  exact Yx2
 ·have lf:Hid (X=if m≠1 then ((XT,0),4) else RP 205 ((Lg:Int)-2) 1 16):=by show _=_;rw [MO.o,Z4 Zo,Z4 Zo,ZR Zo];rw [ZR wP]
  subst wP;clear MO;by_cases Cm:m=1
  rotate_left
  ·exact Yx23
  have LR:Hid (X=RP 205 ((Lg:Int)-2) 1 16):=by show _=_;rw [lf.o,Z4 Zo]
  rw [rq.o] at LR;subst Cm;by_cases sA:(Lg:Int)-2<1
  ·have VA:Hid (X=((XT,0),1)):=by show _=_;rw [LR.o,ZR (Ws sA)]
   have dl:decide ((Lg:Int)-2<1)=true:=Wi sA;have CW:=Zh (yi.o 0 0 Zo);exact bH
  have dl:decide ((Lg:Int)-2<1)=false:=WI sA;by_cases uL:16<(Lg:Int)-2
  ·have VA:Hid (X=((XT,0),1)):=by show _=_;rw [LR.o,ZR (Wh (Ws uL))]
   have dh:decide (16<(Lg:Int)-2)=true:=Wi uL;have CW:=Zh (yi.o 0 0 Zo);exact bH
  have dh:decide (16<(Lg:Int)-2)=false:=WI uL;obtain ⟨N,hN⟩:∃ N:Nat,(Lg:Int)-2=(N:Int):=⟨Lg-2,Zo⟩;rw [hN,Wz] at LR;have CW:=Zh (yi.o 205 N Zo);have yD:(Wp 205 N:Int)=(Lg:Int):=by show ((2+N:Nat):Int)=_;omega
  rw [yD] at CW LR;rw [hN] at dl dh;replace qs:=qs.trans hN;have HNB:Hid ((N:Int)=(Lg:Int)-2∧¬(16:Int)<(Lg:Int)-2):=⟨hN.symm,uL⟩;have lg:Hid (X=if b.length<Z then ((XT,0),2) else ((Xq 205 N ((b.drop 4).take (4*Lg)),Z),0)):=by show _=_;rw [LR.o,Z4 Zo]
  clear LR lf rq yi yD hN sA uL;by_cases TR:b.length<Z
  ·exact Yx3
  have dz:decide ((b.length:Int)<(Z:Int))=false:=WI Zo;have VA:Hid (X=((Xq 205 N ((b.drop 4).take (4*Lg)),Z),0)):=by show _=_;rw [lg.o,Z4 TR]
  obtain ⟨a',Uw,IB⟩:=Wk (P:=Tryz.prog) VF (some ⟨g,off,none⟩) b.length c 4 Z hZ4 Zo R4
  have Ky:Hid (∀ w',Below w w w'→X6 w' (.slice a' (Z-4) (c-4)) ((b.drop 4).take (4*Lg))):=fun w' h=>by
   exact nj
  have ky:∀ w,(Instr.slice 30 (.slice (some ⟨g,off,none⟩) b.length c) (some (.int .i64 4)) (some (.int .i64 (Z:Int))) none).run Tryz.prog w = .ok (.slice a' (Z-4) (c-4)) w:=Uw;have CI:=Zh (Po _ 205 N _ w2 (Ky.o w2 H1.o.Zg) (by have:=HNB.o;omega) Zo);generalize Xq 205 N ((b.drop 4).take (4*Lg))=i at *
  exact Yx2
 ·have lf:Hid (X=if m≠1 then ((XT,0),4) else RP 206 ((Lg:Int)-2) 0 0):=by show _=_;rw [MO.o,Z4 Zo,Z4 Zo,ZR Zo];rw [Z4 (show ¬x1=205 by omega)]
  subst sQ;clear MO;by_cases Cm:m=1
  rotate_left
  ·exact Yx23
  have LR:Hid (X=RP 206 ((Lg:Int)-2) 0 0):=by show _=_;rw [lf.o,Z4 Zo]
  rw [rq.o] at LR;subst Cm;by_cases sA:(Lg:Int)-2<0
  ·have VA:Hid (X=((XT,0),1)):=by show _=_;rw [LR.o,ZR (Ws sA)]
   have dl:decide ((Lg:Int)-2<0)=true:=Wi sA;have CW:=Zh (yi.o 0 0 Zo);exact bH
  have dl:decide ((Lg:Int)-2<0)=false:=WI sA;by_cases uL:0<(Lg:Int)-2
  ·have VA:Hid (X=((XT,0),1)):=by show _=_;rw [LR.o,ZR (Wh (Ws uL))]
   have dh:decide (0<(Lg:Int)-2)=true:=Wi uL;have CW:=Zh (yi.o 0 0 Zo);exact bH
  have dh:decide (0<(Lg:Int)-2)=false:=WI uL;obtain ⟨N,hN⟩:∃ N:Nat,(Lg:Int)-2=(N:Int):=⟨Lg-2,Zo⟩;rw [hN,Wz] at LR;have CW:=Zh (yi.o 206 N Zo);have yD:(Wp 206 N:Int)=(Lg:Int):=by show ((2:Nat):Int)=_;omega
  rw [yD] at CW LR;rw [hN] at dl dh;replace qs:=qs.trans hN;have HNB:Hid ((N:Int)=(Lg:Int)-2∧¬(0:Int)<(Lg:Int)-2):=⟨hN.symm,uL⟩;have lg:Hid (X=if b.length<Z then ((XT,0),2) else ((Xq 206 N ((b.drop 4).take (4*Lg)),Z),0)):=by show _=_;rw [LR.o,Z4 Zo]
  clear LR lf rq yi yD hN sA uL;have dh2:decide (0<N)=false:=WI (by have:=HNB.o;omega);by_cases TR:b.length<Z
  ·exact Yx3
  have dz:decide ((b.length:Int)<(Z:Int))=false:=WI Zo;have VA:Hid (X=((Xq 206 N ((b.drop 4).take (4*Lg)),Z),0)):=by show _=_;rw [lg.o,Z4 TR]
  obtain ⟨a',Uw,IB⟩:=Wk (P:=Tryz.prog) VF (some ⟨g,off,none⟩) b.length c 4 Z hZ4 Zo R4
  have Ky:Hid (∀ w',Below w w w'→X6 w' (.slice a' (Z-4) (c-4)) ((b.drop 4).take (4*Lg))):=fun w' h=>by
   exact nj
  have ky:∀ w,(Instr.slice 30 (.slice (some ⟨g,off,none⟩) b.length c) (some (.int .i64 4)) (some (.int .i64 (Z:Int))) none).run Tryz.prog w = .ok (.slice a' (Z-4) (c-4)) w:=Uw;have CI:=Zh (Po _ 206 N _ w2 (Ky.o w2 H1.o.Zg) (by have:=HNB.o;omega) (by have:=HNB.o;omega));generalize Xq 206 N ((b.drop 4).take (4*Lg))=i at *
  exact Yx2
 ·have VA:Hid (X=((XT,0),4)):=by show _=_;rw [MO.o,Z4 Zo,Z4 Zo,Z4 Zo]
  have e200:((x1:Int) == 200)=false:=by rw [WR];omega
  have e201:((x1:Int) == 201)=false:=by rw [WR];omega
  have e203:((x1:Int) == 203)=false:=by rw [WR];omega
  have e205:((x1:Int) == 205)=false:=by rw [WR];omega
  have e206:((x1:Int) == 206)=false:=by rw [WR];omega
  have CW:=Zh (yi.o 0 0 Zo);have TZ:=H1.o.z;have UF:=H1.o.Y8;go_wp2_with (first|(go_at_call 116;refine CW.o.mono ?_;rintro e w' ⟨rfl,rfl⟩)|(with_reducible refine Zj 173 (.tmp 5) rfl ?_;refine Zf rfl 173 (.tmp 5) rfl (w.heap.size+1) rfl 173 YZ (0,0) _ UF Tryz.underlying173 rfl ZB ?_)|(with_reducible refine ZU 173 (.tmp 2) (.tmp 43) rfl ?_;refine ZV rfl 173 (.tmp 2) (.tmp 43) rfl rfl w.heap.size YZ rfl rfl 173 YZ TZ ZB ZB ZB ?_))
  refine VD (v:= .tuple (Qs YZ 0 4)) ?_ rfl ?_
  ·exact bL
  exact UD.o _ 4 TZ H1.o.Zg VA.o
open Go.Proofs.Rm (YL)
theorem Fv (v:Value) (b:List UInt8) (w:World) (hv:X6 w v b) :
  Calls Tryz.prog 70 #[v] w fun e w'=>(∃ a,e = .returned (.tuple #[a,.int .i64 (Yj b).2])∧YI w' a (Yj b).1)∧Below w w w':=by
 have HX:Hid (Yj b=if 512<b.length then ([],5) else YD 8 b):=rfl;have HV:Hid (∀ w',Below w w w'→X6 w' v b):=fun w' h=>hv.below h
 have hlen:=hv.len;obtain ⟨va,c,rfl,R4,-⟩:=id hv;clear hv R4;generalize Yj b=X at *
 by_cases h1:512<b.length
 ·rw [ZR h1] at HX;clear HV;go_enter Tryz.func70,Tryz.ntmps70;go_wp2_with fail
  go_ret2
  exact ⟨⟨.slice none 0 0,by rw [HX.o];rfl,by rw [HX.o];exact YI.nil _⟩,YJ _ _⟩
 rw [Z4 h1] at HX;have l512:decide (512<(b.length:Int))=false:=WI Zo
 have aN:Hid (YD 8 b=comb [] (YD (8-0) b)):=by
  show _=_;unfold comb;by_cases h:(YD 8 b).2≠0
  ·rw [ZR h];exact JJ h
  ·rw [Z4 h];have h:(YD 8 b).2=0:=by omega
   show YD 8 b=([]++(YD 8 b).1,0);rw [J2,←h]
 go_enter Tryz.func70,Tryz.ntmps70;go_wp2_with fail
 go_loopw [0,4,5] (fun s0 s4 s5 w'=>∃ (j:Nat) (r:List UInt8) (ra:Option Addr) (rc:Nat) (L:List RN),j≤8∧L.length=j∧r.length≤512∧s0 = .slice ra r.length rc∧pA s4=j∧s5 = .bool (decide (j=0))∧Below w w w'∧w'.ownsRow w 173 10 s4 j (L.flatMap YX)∧(∀ x∈L,Uf w' x)∧Hid (∀ w'',Below w w w''→X6 w'' (.slice ra r.length rc) r)∧Hid ((j=0∨0<r.length)→YD 8 b=comb (L.map (·.i)) (YD (8-j) r))∧Hid (¬(j=0∨0<r.length)→YD 8 b=(L.map (·.i),0))) (fun s0 s4 s5 _=>9-pA s4)
 case atStart=>exact ⟨0,b,va,c,[],Tk _,rfl,Zo,rfl,rfl,rfl,YJ _ _,TY _ _ _ _,fun _ h=>by (exact absurd h Zi),HV.o,fun _=>aN.o,fun h=>absurd (Ws rfl) h⟩
 case round=>
  clear aN HV;obtain ⟨j,r,ra,rc,L,hj,hLj,hr,rfl,-,rfl,VX,YH,PF,HR,HG,HE⟩:=hrel;obtain ⟨oa,oc,rfl,-,-⟩:=Row.Z6 YH;have Sy:=Zh VX;have Yh:=Zh YH;have FW:=Zh PF;have TR:=VX.size;have HLJ:=Zh hLj;clear VX YH PF hLj;by_cases uK:j=0∨0<r.length
  rotate_left
  ·have DI:Hid (X=(L.map (·.i),0)):=by show _=_;rw [HX.o,HE.o uK]
   have cX:decide (j=0)=false:=WI Zo;have hr0:r.length=0:=by omega
   have hrD:decide (0<(r.length:Int))=false:=WI Zo;rw [cX];clear HG HE HX uK;go_wp2_with fail
   go_ret2
   exact ⟨⟨_,by rw [DI.o];rfl,by rw [DI.o];exact ⟨L,rfl,by rw [HLJ.o];exact Row.Z6 Yh.o,FW.o⟩⟩,Sy.o⟩
  have eW:=HG.o uK;have OH:=Zh eW;clear HG eW HE;by_cases h8:j=8
  ·subst h8;have hrD:decide (0<(r.length:Int))=true:=Wi Zo;have hrD2:decide (0<r.length)=true:=Wi Zo;have DI:Hid (X=([],3)):=by show _=_;rw [HX.o,OH.o];rfl
   have cX:decide (8=0)=false:=by decide
   rw [cX];clear HX OH uK;go_wp2_with fail
   go_ret2
   exact ⟨⟨.slice none 0 0,by rw [DI.o];rfl,by rw [DI.o];exact YI.nil _⟩,Sy.o⟩
  have e8:((j:Int) == 8)=false:=by rw [WR];omega
  obtain ⟨q,hq⟩:∃ q,8-j=q+1:=⟨7-j,Zo⟩;rw [hq] at OH;have CI:=Zh (De _ r wr (HR.o _ Sy.o) hr)
  have gZ:r.length≤rc:=by
   have h:=HR.o _ Sy.o;obtain ⟨a1,c1,h1,h2,_⟩:=h;injection h1 with _ _ h1
   omega
  have iF:=Zh (GK (b:=r));have HE:=Zh (zC (L.map (·.i)) q (r:=r));have FX:=Zh (DX (L.map (·.i)) q (r:=r));have HM:=Zh (DY (L.map (·.i)) q (r:=r));generalize Y6 r=Y at *
  obtain ⟨⟨i,n⟩,er⟩:=Y;dsimp only at CI iF HE FX HM
  have ag:decide (j=0)=true∨(decide (j=0)=false∧decide (0<(r.length:Int))=true∧decide (0<r.length)=true):=by
   by_cases h:j=0
   ·exact Ws (Wi h)
   ·exact Wh ⟨WI h,Wi Zo,Wi Zo⟩
  rcases ag with cX|⟨cX,hrD,hrD2⟩
  ·exact Yx4
  ·exact Yx4
end Go.Proofs.By
