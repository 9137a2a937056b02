/- Part of a proof. -/
import Derived.Test.YtpdjhlcbcomdkaaGreatDoorF30
set_option linter.unusedVariables false
set_option linter.unusedSimpArgs false
set_option maxRecDepth 100000
set_option maxHeartbeats 16000000
open Go Go.Q Go.Qr
namespace Go.Proofs.By
open Go.RowKit Go.Proofs.Heap Go.Proofs
theorem zL (v:Value) (n:Nat) (c:List UInt8) (w:World) (hv:Yn w v c) (hn:n≤1000) :
  Calls Tryz.prog 117 (Q6 200 (n:Int) v) w fun e w'=>(∃ a,e = .returned a∧TN w' a (XP 200 n c))∧Below w w w':=by
 have CR:=Zh (fun (p q:Int) (w':World) (h:Below w w w')=>RX v c p q w' (hv.below h))
 obtain ⟨ss,Nu⟩:∃ x:Nat,x=get c 0 4:=⟨_,rfl⟩
 have pU:=Zh (fun (w':World) (h:Below w w w')=>CR.o 0 4 w' h)
 rw [←Nu] at pU
 have bss:IntKind.u32.wrap (ss:Int)=(ss:Int):=by have:=Xu c 0;rw [NC];omega
 obtain ⟨nt,hnt⟩:∃ x:Nat,x=get c 4 8:=⟨_,rfl⟩
 have Cnt:=Zh (fun (w':World) (h:Below w w w')=>CR.o 4 8 w' h)
 rw [←hnt] at Cnt
 obtain ⟨tm,jP⟩:∃ x:Nat,x=get c 12 4:=⟨_,rfl⟩
 have Ctm:=Zh (fun (w':World) (h:Below w w w')=>CR.o 12 4 w' h)
 rw [←jP] at Ctm
 have btm:IntKind.u32.wrap (tm:Int)=(tm:Int):=by have:=Xu c 12;rw [NC];omega
 obtain ⟨pk,hpk⟩:∃ x:Nat,x=get c 16 4:=⟨_,rfl⟩
 have Cpk:=Zh (fun (w':World) (h:Below w w w')=>CR.o 16 4 w' h)
 rw [←hpk] at Cpk
 have bpk:IntKind.u32.wrap (pk:Int)=(pk:Int):=by have:=Xu c 16;rw [NC];omega
 obtain ⟨oc,hoc⟩:∃ x:Nat,x=get c 20 4:=⟨_,rfl⟩
 have Coc:=Zh (fun (w':World) (h:Below w w w')=>CR.o 20 4 w' h)
 rw [←hoc] at Coc
 have boc:IntKind.u32.wrap (oc:Int)=(oc:Int):=by have:=Xu c 20;rw [NC];omega
 have HX:Hid (XP 200 n c=⟨200,(ss:Int),(nt:Int),(tm:Int),(pk:Int),(oc:Int),VP c 24 n,[],0,[]⟩):=by
  show _=_
  unfold XP
  rw [Nu,hnt,jP,hpk,hoc]
  simp
 generalize XP 200 n c=X at *
 clear Nu hnt jP hpk hoc
 have H1:Hid (GI w (((w.alloc (.cells Y9 173)).alloc (.cells Y9 173)).setRow (w.heap.size+1) qW) Yz10):=GI.start w 200
 have hz:((w.alloc (.cells Y9 173)).alloc (.cells Y9 173)).heap[w.heap.size+1]?=some (.cells Y9 173 (0,0)):=by
  exact uS
 clear hv
 go_enter Tryz.func117,Tryz.ntmps117
 go_upto_region 2 with (with_reducible refine ZY 173 (.tmp 7) (.tmp 11) rfl ?_;refine ZW rfl 173 (.tmp 7) (.tmp 11) rfl rfl (w.heap.size+1) qW rfl rfl 173 Y9 hz Zg Zg Zg ?_)
 clear hz
 generalize ((w.alloc (.cells Y9 173)).alloc (.cells Y9 173)).setRow (w.heap.size+1) qW=w1 at *
 have z1:=cell_of H1.o.Y8 1
 simp only [R9,R8,RT] at z1
 have f1:=ZI H1.o.Y8 1
 go_upto_region 5 with (go_at_call 118;refine (pU.o _ H1.o.YI).mono ?_;rintro e w' ⟨rfl,rfl⟩)
 have H2:Hid (GI w (w1.setCell ⟨w.heap.size+1,1,none⟩ (.int .u32 (ss:Int))) (Qc 200 (ss:Int) 0 0 0 0 none 0 0 none 0 0 0 none 0 0)):=H1.o.set 1 (.int .u32 (ss:Int))
 clear z1 f1
 generalize w1.setCell ⟨w.heap.size+1,1,none⟩ (.int .u32 (ss:Int))=w2 at *
 have z2:=cell_of H2.o.Y8 2
 simp only [R9,R8,RT] at z2
 have f2:=ZI H2.o.Y8 2
 go_upto_region 8 with (go_at_call 118;refine (Cnt.o _ H2.o.YI).mono ?_;rintro e w' ⟨rfl,rfl⟩)
 have H3:Hid (GI w (w2.setCell ⟨w.heap.size+1,2,none⟩ (.int .u64 (nt:Int))) (Qc 200 (ss:Int) (nt:Int) 0 0 0 none 0 0 none 0 0 0 none 0 0)):=H2.o.set 2 (.int .u64 (nt:Int))
 clear z2 f2
 generalize w2.setCell ⟨w.heap.size+1,2,none⟩ (.int .u64 (nt:Int))=w3 at *
 have z3:=cell_of H3.o.Y8 3
 simp only [R9,R8,RT] at z3
 have f3:=ZI H3.o.Y8 3
 go_upto_region 9 with (go_at_call 118;refine (Ctm.o _ H3.o.YI).mono ?_;rintro e w' ⟨rfl,rfl⟩)
 have H4:Hid (GI w (w3.setCell ⟨w.heap.size+1,3,none⟩ (.int .u32 (tm:Int))) (Qc 200 (ss:Int) (nt:Int) (tm:Int) 0 0 none 0 0 none 0 0 0 none 0 0)):=H3.o.set 3 (.int .u32 (tm:Int))
 clear z3 f3
 generalize w3.setCell ⟨w.heap.size+1,3,none⟩ (.int .u32 (tm:Int))=w4 at *
 have z4:=cell_of H4.o.Y8 4
 simp only [R9,R8,RT] at z4
 have f4:=ZI H4.o.Y8 4
 go_upto_region 10 with (go_at_call 118;refine (Cpk.o _ H4.o.YI).mono ?_;rintro e w' ⟨rfl,rfl⟩)
 have H5:Hid (GI w (w4.setCell ⟨w.heap.size+1,4,none⟩ (.int .u32 (pk:Int))) (Qc 200 (ss:Int) (nt:Int) (tm:Int) (pk:Int) 0 none 0 0 none 0 0 0 none 0 0)):=H4.o.set 4 (.int .u32 (pk:Int))
 clear z4 f4
 generalize w4.setCell ⟨w.heap.size+1,4,none⟩ (.int .u32 (pk:Int))=w5 at *
 have z5:=cell_of H5.o.Y8 5
 simp only [R9,R8,RT] at z5
 have f5:=ZI H5.o.Y8 5
 go_upto_region 11 with (go_at_call 118;refine (Coc.o _ H5.o.YI).mono ?_;rintro e w' ⟨rfl,rfl⟩)
 have H6:Hid (GI w (w5.setCell ⟨w.heap.size+1,5,none⟩ (.int .u32 (oc:Int))) (Qc 200 (ss:Int) (nt:Int) (tm:Int) (pk:Int) (oc:Int) none 0 0 none 0 0 0 none 0 0)):=H5.o.set 5 (.int .u32 (oc:Int))
 clear z5 f5
 generalize w5.setCell ⟨w.heap.size+1,5,none⟩ (.int .u32 (oc:Int))=w6 at *
 go_wp2_with fail
 go_loopw [8,9] (fun s8 s9 w'=>∃ (i pos:Nat) (a:Option Addr) (q:Nat),i≤n∧pos=24+24*i∧s9 = .int .i64 (i:Int)∧s8 = .int .i64 (pos:Int)∧GI w w' (Qc 200 (ss:Int) (nt:Int) (tm:Int) (pk:Int) (oc:Int) a i q none 0 0 0 none 0 0)∧w'.ownsRow w 228 7 (.slice a i q) i ((VP c 24 i).flatMap XC)) (fun _ s9 _=>n-(intOf s9).toNat)
 case atStart=>exact ⟨0,24,none,0,Zo,Zo,rfl,rfl,H6.o,Us _ _ _ _⟩
 case round=>
  obtain ⟨i,pos,a,q,hi,Rk,rfl,rfl,Fp,YO⟩:=hrel
  have HG:=Zh Fp
  have HO:=Zh YO
  clear Fp YO H6
  by_cases Ie:i<n
  ·obtain ⟨x0,Ro⟩:∃ x:Nat,x=get c (pos:Int) 4:=⟨_,rfl⟩
   obtain ⟨x1,Tm⟩:∃ x:Nat,x=get c ((pos:Int)+4) 1:=⟨_,rfl⟩
   obtain ⟨x2,OY⟩:∃ x:Nat,x=get c ((pos:Int)+5) 3:=⟨_,rfl⟩
   obtain ⟨x3,OG⟩:∃ x:Nat,x=get c ((pos:Int)+8) 4:=⟨_,rfl⟩
   obtain ⟨x4,MA⟩:∃ x:Nat,x=get c ((pos:Int)+12) 4:=⟨_,rfl⟩
   obtain ⟨x5,BC⟩:∃ x:Nat,x=get c ((pos:Int)+16) 4:=⟨_,rfl⟩
   obtain ⟨x6,jS⟩:∃ x:Nat,x=get c ((pos:Int)+20) 4:=⟨_,rfl⟩
   have Lj:Hid (VP c 24 (i+1)=VP c 24 i++[⟨x0,x1,x2,x3,x4,x5,x6⟩]):=by
    show _=_
    rw [Ro,Tm,OY,OG,MA,BC,jS,Rk]
    unfold VP
    rw [Aq,ND]
    rfl
   have C0:=Zh (fun (w':World) (h:Below w w w')=>CR.o (pos:Int) 4 w' h)
   rw [←Ro] at C0
   have Ri:IntKind.u32.wrap (x0:Int)=(x0:Int):=by have:=Xu c (pos:Int);rw [NC];omega
   have C1:=Zh (fun (w':World) (h:Below w w w')=>CR.o ((pos:Int)+4) 1 w' h)
   rw [←Tm] at C1
   have Zj:IntKind.u8.wrap (x1:Int)=(x1:Int):=by have:=xA c ((pos:Int)+4);rw [IntKind.wrap_u8];omega
   have Fw:IntKind.i64.wrap ((pos:Int)+4)=(pos:Int)+4:=Ua _ Zo
   have C2:=Zh (fun (w':World) (h:Below w w w')=>CR.o ((pos:Int)+5) 3 w' h)
   rw [←OY] at C2
   have Y0:IntKind.u32.wrap (x2:Int)=(x2:Int):=by have:=xB c ((pos:Int)+5);rw [NC];omega
   have dg:IntKind.i64.wrap ((pos:Int)+5)=(pos:Int)+5:=Ua _ Zo
   have C3:=Zh (fun (w':World) (h:Below w w w')=>CR.o ((pos:Int)+8) 4 w' h)
   rw [←OG] at C3
   have Ut:IntKind.u32.wrap (x3:Int)=(x3:Int):=by have:=Xu c ((pos:Int)+8);rw [NC];omega
   have hp3:IntKind.i64.wrap ((pos:Int)+8)=(pos:Int)+8:=Ua _ Zo
   have C4:=Zh (fun (w':World) (h:Below w w w')=>CR.o ((pos:Int)+12) 4 w' h)
   rw [←MA] at C4
   have TE:IntKind.u32.wrap (x4:Int)=(x4:Int):=by have:=Xu c ((pos:Int)+12);rw [NC];omega
   have hp4:IntKind.i64.wrap ((pos:Int)+12)=(pos:Int)+12:=Ua _ Zo
   have C5:=Zh (fun (w':World) (h:Below w w w')=>CR.o ((pos:Int)+16) 4 w' h)
   rw [←BC] at C5
   have LM:IntKind.u32.wrap (x5:Int)=(x5:Int):=by have:=Xu c ((pos:Int)+16);rw [NC];omega
   have hp5:IntKind.i64.wrap ((pos:Int)+16)=(pos:Int)+16:=Ua _ Zo
   have C6:=Zh (fun (w':World) (h:Below w w w')=>CR.o ((pos:Int)+20) 4 w' h)
   rw [←jS] at C6
   have Fl:IntKind.u32.wrap (x6:Int)=(x6:Int):=by have:=Xu c ((pos:Int)+20);rw [NC];omega
   have hp6:IntKind.i64.wrap ((pos:Int)+20)=(pos:Int)+20:=Ua _ Zo
   have mh:IntKind.i64.wrap ((pos:Int)+24)=(pos:Int)+24:=Ua _ Zo
   have Fx:pos≤100000:=by omega
   have OI:=Zh Rk
   clear Rk Ro Tm OY OG MA BC jS
   go_upto_region 19 with fail
   have HG:=Zh (HG.o.below (YG _ _).drew)
   have HO:=Zh (X9 HO.o (YG _ _).drew)
   have k0:(wr.drew).cell? ⟨w.heap.size+1,6,none⟩=some (.slice a i q):=Zc HG.o.Y8 6 rfl
   refine QN ?_
   refine Z3.Yq (d:=40) (S:=(fun w'=>w'.cell? ⟨w.heap.size+1,6,none⟩=some (.slice a i q))) Zg ?_ (fun _=>?_)
   ·(try dsimp only)
    exact k0
   refine YP 0 (h:=YP 2 (h:=YP 3 (h:=YP 6 (h:=YP 7 (h:=YP 8 (h:=YP 11 (h:=YP 12 (h:=YP 13 (h:=YP 16 (h:=YP 17 (h:=YP 18 (h:=YP 21 (h:=YP 22 (h:=YP 23 (h:=YP 26 (h:=YP 27 (h:=YP 28 (h:=YP 31 (h:=YP 32 (h:=YP 33 (h:=YK 1 (h:=?_))))))))))))))))))))))
   refine YR 4 (h:=fun K hK=>?_)
   go_simp
   refine (C0.o _ HG.o.YI).mono ?_
   rintro e w' ⟨rfl,rfl⟩
   go_wp2_with fail
   refine Z3.Xl hK _ _ ?_ (fun _=>?_)
   ·(try dsimp only)
    first|exact k2|exact k1|exact k0
   clear hK K
   try simp only [Z3.pt]
   refine YP 5 (h:=?_)
   refine YR 9 (h:=fun K hK=>?_)
   go_simp
   refine (C1.o _ HG.o.YI).mono ?_
   rintro e w' ⟨rfl,rfl⟩
   go_wp2_with fail
   refine Z3.Xl hK _ _ ?_ (fun _=>?_)
   ·(try dsimp only)
    first|exact k2|exact k1|exact k0
   clear hK K
   try simp only [Z3.pt]
   refine YP 10 (h:=?_)
   refine YR 14 (h:=fun K hK=>?_)
   go_simp
   refine (C2.o _ HG.o.YI).mono ?_
   rintro e w' ⟨rfl,rfl⟩
   go_wp2_with fail
   refine Z3.Xl hK _ _ ?_ (fun _=>?_)
   ·(try dsimp only)
    first|exact k2|exact k1|exact k0
   clear hK K
   try simp only [Z3.pt]
   refine YP 15 (h:=?_)
   refine YR 19 (h:=fun K hK=>?_)
   go_simp
   refine (C3.o _ HG.o.YI).mono ?_
   rintro e w' ⟨rfl,rfl⟩
   go_wp2_with fail
   refine Z3.Xl hK _ _ ?_ (fun _=>?_)
   ·(try dsimp only)
    first|exact k2|exact k1|exact k0
   clear hK K
   try simp only [Z3.pt]
   refine YP 20 (h:=?_)
   refine YR 24 (h:=fun K hK=>?_)
   go_simp
   refine (C4.o _ HG.o.YI).mono ?_
   rintro e w' ⟨rfl,rfl⟩
   go_wp2_with fail
   refine Z3.Xl hK _ _ ?_ (fun _=>?_)
   ·(try dsimp only)
    first|exact k2|exact k1|exact k0
   clear hK K
   try simp only [Z3.pt]
   refine YP 25 (h:=?_)
   refine YR 29 (h:=fun K hK=>?_)
   go_simp
   refine (C5.o _ HG.o.YI).mono ?_
   rintro e w' ⟨rfl,rfl⟩
   go_wp2_with fail
   refine Z3.Xl hK _ _ ?_ (fun _=>?_)
   ·(try dsimp only)
    first|exact k2|exact k1|exact k0
   clear hK K
   try simp only [Z3.pt]
   refine YP 30 (h:=?_)
   refine YR 34 (h:=fun K hK=>?_)
   go_simp
   refine (C6.o _ HG.o.YI).mono ?_
   rintro e w' ⟨rfl,rfl⟩
   go_wp2_with fail
   refine Z3.Xl hK _ _ ?_ (fun _=>?_)
   ·(try dsimp only)
    first|exact k2|exact k1|exact k0
   clear hK K
   try simp only [Z3.pt]
   refine YP 35 (h:=YP 36 (h:=?_))
   refine YR 37 (h:=fun K hK=>?_)
   refine Va Zr NI (.tmp 87) Zr (Qq (x0:Int) (x1:Int) (x2:Int) (x3:Int) (x4:Int) (x5:Int) (x6:Int)) Zr Zr Zd ?_
   have HG:=Zh (HG.o.below (Z' wr.drew (.cells (Qq (x0:Int) (x1:Int) (x2:Int) (x3:Int) (x4:Int) (x5:Int) (x6:Int)) 228)))
   have HO:=Zh (X9 HO.o (Z' wr.drew (.cells (Qq (x0:Int) (x1:Int) (x2:Int) (x3:Int) (x4:Int) (x5:Int) (x6:Int)) 228)))
   have k1:=cell_of HG.o.Y8 6
   simp only [R9,R8,RT] at k1
   refine Z3.Xl hK _ _ ?_ (fun _=>?_)
   ·(try dsimp only)
    first|exact k2|exact k1|exact k0
   clear hK K
   try simp only [Z3.pt]
   refine YR 38 (h:=fun K hK=>?_)
   refine Zw Zr (.tmp 52) (.tmp 88) 170 Zr w.heap.size NI (.slice a i q) i ((VP c 24 i).flatMap XC) Zr HO.o _ 1 ([(⟨x0,x1,x2,x3,x4,x5,x6⟩:uB)].flatMap XC) Zr (UJ wr.drew 228 1 ([(⟨x0,x1,x2,x3,x4,x5,x6⟩:uB)].flatMap XC) Zd) rfl (TV fun x _=>DV x) Zo Zo ?_ ?_
   ·exact HG.o.YI.size
   intro v' w6 EX yr
   obtain ⟨na,nq,Ig,-⟩:=Row.ZV EX.o
   subst Ig
   have HG:=Zh (HG.o.grown HO.o Zd yr.o)
   have HO:Hid (w6.ownsRow w 228 7 (.slice na (i+1) nq) (i+1) ((VP c 24 i++[(⟨x0,x1,x2,x3,x4,x5,x6⟩:uB)]).flatMap XC)):=(by have h:=EX.o;rw [←QL] at h;exact h)
   exact aZ
  ·have yU:i=n:=by omega
   subst yU
   have Tf:=Zh (Row.ZV HO.o)
   have UD:=HG.o.z
   have VD:=HG.o.Y8
   go_wp2_with (first|(with_reducible refine Yp 173 (.tmp 7) rfl ?_;refine Yd rfl 173 (.tmp 7) rfl (w.heap.size+1) rfl 173 (Qc 200 (ss:Int) (nt:Int) (tm:Int) (pk:Int) (oc:Int) a i q none 0 0 0 none 0 0) (0,0) _ VD Tryz.underlying173 rfl Zg ?_)|(with_reducible refine ZY 173 (.tmp 6) (.tmp 125) rfl ?_;refine ZW rfl 173 (.tmp 6) (.tmp 125) rfl rfl w.heap.size (Qc 200 (ss:Int) (nt:Int) (tm:Int) (pk:Int) (oc:Int) a i q none 0 0 0 none 0 0) rfl rfl 173 Y9 UD Zg Zg Zg ?_))
   refine VR (v:= .agg (Qc 200 (ss:Int) (nt:Int) (tm:Int) (pk:Int) (oc:Int) a i q none 0 0 0 none 0 0)) ?_ rfl ?_
   ·exact results_cell_row Zr _ _ w.heap.size 173 (Qc 200 (ss:Int) (nt:Int) (tm:Int) (pk:Int) (oc:Int) a i q none 0 0 0 none 0 0) (0,0) _ Zr (setRow_heap _ _ _ _ _ _ UD) Tryz.underlying173 rfl Zg
   refine ⟨⟨_,rfl,?_⟩,Z0 HG.o.YI (ZB _) _⟩
   rw [HX.o]
   have hr:UY wr ⟨⟨200,(ss:Int),(nt:Int),(tm:Int),(pk:Int),(oc:Int),VP c 24 i,[],0,[]⟩,.slice a i q,.slice none 0 0,.slice none 0 0⟩:=⟨by show Row wr _ _ (VP c 24 i).length _;rw [show (VP c 24 i).length=i by unfold VP;rw [UM,List.length_range]];exact Tf.o,Row.nil _ _,Row.nil _ _⟩
   have Lf:=UY.setRow hr UD (Qc 200 (ss:Int) (nt:Int) (tm:Int) (pk:Int) (oc:Int) a i q none 0 0 0 none 0 0)
   exact ⟨_,_,_,rfl,Lf.b,Lf.g,Lf.p⟩
def long (b:List UInt8):Nat:=at8 b 2*256+at8 b 3
theorem xC {b:List UInt8} (h:4≤b.length):get b 2 2=long b:=by
 match b,h with
 | x0 :: x1 :: x2 :: x3 :: t,_=>
  have hw:within (x0 :: x1 :: x2 :: x3 :: t).length 2 2=true:=within_iff.2 ⟨by decide,by decide,by decide,by simp;omega⟩
  unfold get
  rw [ZX hw]
  simp [be,long,at8]
theorem QV {b:List UInt8} {m p q:Nat} (h1:p+q≤m) (h2:4+m≤b.length) (hq:1≤q) (hq8:q≤8):get ((b.drop 4).take m) (p:Int) (q:Int)=get b ((p:Int)+4) (q:Int):=by
 have hl:((b.drop 4).take m).length=m:=by rw [TU,RU];omega
 have w1:within ((b.drop 4).take m).length (p:Int) (q:Int)=true:=within_iff.2 ⟨Zo,Zo,Zo,by rw [hl];omega⟩
 have w2:within b.length ((p:Int)+4) (q:Int)=true:=within_iff.2 ⟨Zo,Zo,Zo,Zo⟩
 unfold get
 rw [ZX w1,ZX w2]
 congr 1
 have e1:((p:Int)+4).toNat=4+p:=by omega
 have e2:(p:Int).toNat=p:=by omega
 have e3:(q:Int).toNat=q:=by omega
 rw [e1,e2,e3,List.drop_take,List.drop_drop,List.take_take,Nat.min_eq_left Zo]
theorem D8 {b:List UInt8} {n p q:Nat} (h1:p+q≤n) (h2:n≤b.length) (hq:1≤q) (hq8:q≤8):get (b.take n) (p:Int) (q:Int)=get b (p:Int) (q:Int):=by
 have hl:(b.take n).length=n:=by rw [TU];omega
 have w1:within (b.take n).length (p:Int) (q:Int)=true:=within_iff.2 ⟨Zo,Zo,Zo,by rw [hl];omega⟩
 have w2:within b.length (p:Int) (q:Int)=true:=within_iff.2 ⟨Zo,Zo,Zo,Zo⟩
 unfold get
 rw [ZX w1,ZX w2]
 congr 1
 have e2:(p:Int).toNat=p:=by omega
 have e3:(q:Int).toNat=q:=by omega
 rw [e2,e3,List.drop_take,List.take_take,Nat.min_eq_left Zo]
theorem vq {c:List UInt8} {p:Nat} (h:p+4≤c.length):get c (p:Int) 4=get c (p:Int) 2*65536+get c ((p:Int)+2) 2:=by
 have w1:within c.length (p:Int) 4=true:=within_iff.2 ⟨by decide,by decide,Zo,Zo⟩
 have w2:within c.length (p:Int) 2=true:=within_iff.2 ⟨by decide,by decide,Zo,Zo⟩
 have w3:within c.length ((p:Int)+2) 2=true:=within_iff.2 ⟨by decide,by decide,Zo,Zo⟩
 unfold get
 rw [ZX w1,ZX w2,ZX w3]
 have e1:((p:Int)+2).toNat=p+2:=by omega
 have e2:(p:Int).toNat=p:=by omega
 rw [e1,e2]
 have hd:∃ a0 a1 a2 a3 t,c.drop p=a0 :: a1 :: a2 :: a3 :: t:=by
  have hl:4≤(c.drop p).length:=by rw [RU];omega
  match c.drop p,hl with
  | a0 :: a1 :: a2 :: a3 :: t,_=>exact ⟨a0,a1,a2,a3,t,rfl⟩
 obtain ⟨a0,a1,a2,a3,t,hd⟩:=hd
 have GD:c.drop (p+2)=a2 :: a3 :: t:=by rw [←List.drop_drop,hd];rfl
 rw [hd,GD]
 show be [a0,a1,a2,a3]=be [a0,a1]*65536+be [a2,a3]
 simp only [be,List.foldl]
 omega
def VN (b:List UInt8) (k:Nat) (n least most:Int):(R6 × Nat) × Int:=
 if n<least∨most<n∨(long b:Int)≠WY k n.toNat then ((X8,0),1)
 else if b.length<4+4*long b then ((X8,0),2)
 else ((XP k n.toNat ((b.drop 4).take (4*long b)),4+4*long b),0)
def Mc (b:List UInt8):(R6 × Nat) × Int:=
 if b.length<4 then ((X8,0),2)
 else if at8 b 0 / 32≠4 then ((X8,0),1)
 else if at8 b 1=200∨at8 b 1=201 then VN b (at8 b 1) (at8 b 0 % 32:Nat) 0 15
 else if at8 b 1=203 then VN b 203 (at8 b 0 % 32:Nat) 1 15
 else if at8 b 1=205∨at8 b 1=206 then
  (if at8 b 0 % 32≠1 then ((X8,0),4)
  else if at8 b 1=205 then VN b 205 ((long b:Int)-2) 1 16 else VN b 206 ((long b:Int)-2) 0 0)
 else ((X8,0),4)
theorem xj {b:List UInt8} {m p:Nat} (h1:p+24≤m) (h2:4+m≤b.length):iE ((b.drop 4).take m) (p:Int)=OX b (p+4):=by
 have g:∀ d q:Nat,d+q≤24→1≤q→q≤8→get ((b.drop 4).take m) ((p:Int)+(d:Int)) (q:Int)=get b ((p+4+d:Nat):Int) (q:Int):=fun d q hd hq hq8=>by
  have h:=QV (b:=b) (m:=m) (p:=p+d) (q:=q) Zo h2 hq hq8
  rw [show ((p:Int)+(d:Int))=((p+d:Nat):Int) by omega,h,show (((p+d:Nat):Int)+4)=((p+4+d:Nat):Int) by omega]
 have e0:get ((b.drop 4).take m) (p:Int) 4=get b ((p+4:Nat):Int) 4:=by
  have h:=QV (b:=b) (m:=m) (p:=p) (q:=4) Zo h2 Zo Zo
  have h:get ((b.drop 4).take m) (p:Int) 4=get b ((p:Int)+4) 4:=h
  rw [h,show ((p:Int)+4)=((p+4:Nat):Int) by omega]
 have e4:get ((b.drop 4).take m) ((p:Int)+4) 1=get b ((p+4+4:Nat):Int) 1:=g 4 1 Zo Zo Zo
 have e5:get ((b.drop 4).take m) ((p:Int)+5) 3=get b ((p+4+5:Nat):Int) 3:=g 5 3 Zo Zo Zo
 have e8:get ((b.drop 4).take m) ((p:Int)+8) 4=get b ((p+4+8:Nat):Int) 4:=g 8 4 Zo Zo Zo
 have e12:get ((b.drop 4).take m) ((p:Int)+12) 4=get b ((p+4+12:Nat):Int) 4:=g 12 4 Zo Zo Zo
 have e16:get ((b.drop 4).take m) ((p:Int)+16) 4=get b ((p+4+16:Nat):Int) 4:=g 16 4 Zo Zo Zo
 have e20:get ((b.drop 4).take m) ((p:Int)+20) 4=get b ((p+4+20:Nat):Int) 4:=g 20 4 Zo Zo Zo
 unfold iE OX
 rw [e0,e4,e5,e8,e12,e16,e20]
theorem zJ {b:List UInt8} {m:Nat} (hm:m=at8 b 0 % 32) (k0:at8 b 1=200∨at8 b 1=201) (hl:long b=WY (at8 b 1) m) (hb:4+4*long b≤b.length):report b=XP (at8 b 1) m ((b.drop 4).take (4*long b)):=by
 subst hm
 rcases k0 with k|k
 ·have hw:long b=6+6*(at8 b 0 % 32):=by rw [hl,k];rfl
  have g:=fun (p q:Nat) (hp:p+q≤24) (h1:1≤q) (h8:q≤8)=>QV (b:=b) (m:=4*long b) (p:=p) (q:=q) Zo hb h1 h8
  have g0:get ((b.drop 4).take (4*long b)) 0 4=get b 4 4:=g 0 4 Zo Zo Zo
  have g4:get ((b.drop 4).take (4*long b)) 4 8=get b 8 8:=g 4 8 Zo Zo Zo
  have g12:get ((b.drop 4).take (4*long b)) 12 4=get b 16 4:=g 12 4 Zo Zo Zo
  have g16:get ((b.drop 4).take (4*long b)) 16 4=get b 20 4:=g 16 4 Zo Zo Zo
  have g20:get ((b.drop 4).take (4*long b)) 20 4=get b 24 4:=g 20 4 Zo Zo Zo
  have XS:VP ((b.drop 4).take (4*long b)) 24 (at8 b 0 % 32)=(List.range (at8 b 0 % 32)).map fun (i:Nat)=>OX b (28+24*i):=by
   unfold VP
   refine List.map_congr_left fun i hi=>?_
   rw [List.mem_range] at hi
   rw [xj Zo hb]
   congr 1
   omega
  unfold report XP
  rw [k]
  simp [g0,g4,g12,g16,g20,XS]
 ·have hw:long b=1+6*(at8 b 0 % 32):=by rw [hl,k];rfl
  have g0:get ((b.drop 4).take (4*long b)) 0 4=get b 4 4:=QV (b:=b) (m:=4*long b) (p:=0) (q:=4) Zo hb Zo Zo
  have XS:VP ((b.drop 4).take (4*long b)) 4 (at8 b 0 % 32)=(List.range (at8 b 0 % 32)).map fun (i:Nat)=>OX b (8+24*i):=by
   unfold VP
   refine List.map_congr_left fun i hi=>?_
   rw [List.mem_range] at hi
   rw [xj Zo hb]
   congr 1
   omega
  unfold report XP
  rw [k]
  simp [g0,XS]
theorem zI {b:List UInt8} (h1:4≤b.length) (h2:at8 b 0 / 32=4) (k0:at8 b 1=200∨at8 b 1=201):Yc b=VN b (at8 b 1) (at8 b 0 % 32:Nat) 0 15:=by
 have hg:=xC h1
 have hr:Vw (at8 b 1) (at8 b 0 % 32)=4+4*WY (at8 b 1) (at8 b 0 % 32):=by
  unfold Vw WY
  rcases k0 with k|k <;> rw [k] <;> simp <;> omega
 have e1:right b=if 15<at8 b 0 % 32∨(get b 2 2+1)*4≠Vw (at8 b 1) (at8 b 0 % 32) then (0,1) else if b.length<Vw (at8 b 1) (at8 b 0 % 32) then (0,2) else (Vw (at8 b 1) (at8 b 0 % 32),0):=by
  unfold right
  rw [Z6 Zo,Z6 Zo,Z6 Zo]
 unfold Yc VN
 rw [e1,hg,hr,Xf]
 by_cases OO:15<at8 b 0 % 32∨(long b+1)*4≠4+4*WY (at8 b 1) (at8 b 0 % 32)
 ·rw [ZX OO,ZX (by dsimp only;decide),ZX Zo]
 ·rw [Z6 OO,Z6 (show ¬(((at8 b 0 % 32:Nat):Int)<0∨(15:Int)<((at8 b 0 % 32:Nat):Int)∨(long b:Int)≠(WY (at8 b 1) (at8 b 0 % 32):Nat)) by omega)]
  have hl:long b=WY (at8 b 1) (at8 b 0 % 32):=by omega
  by_cases hs:b.length<4+4*WY (at8 b 1) (at8 b 0 % 32)
  ·rw [ZX hs,ZX (by dsimp only;decide),ZX (by rw [hl];exact hs)]
  ·rw [Z6 hs,Z6 (by dsimp only;decide),Z6 (by rw [hl];exact hs),zJ rfl k0 hl (by rw [hl];omega),←hl]
theorem MW {b:List UInt8} {n p:Nat} (hn:n≤b.length) (hp:p≤n):Ya (b.take n) p=(List.range ((n-p) / 4)).map fun (i:Nat)=>get b ((p+4*i:Nat):Int) 4:=by
 unfold Ya
 rw [TU,Nat.min_eq_left hn]
 refine List.map_congr_left fun i hi=>?_
 rw [List.mem_range] at hi
 exact D8 (p:=p+4*i) (q:=4) Zo hn Zo Zo
theorem K1 {b:List UInt8} (hb:4+4*long b≤b.length):parts (b.take (4+4*long b)) 203=XP 203 (long b) ((b.drop 4).take (4*long b))∧(2≤long b→parts (b.take (4+4*long b)) 205=XP 205 (long b-2) ((b.drop 4).take (4*long b)))∧(long b=2→parts (b.take (4+4*long b)) 206=XP 206 0 ((b.drop 4).take (4*long b))):=by
 refine ⟨?_,fun h2=>?_,fun h2=>?_⟩
 ·have e:(Ya (b.take (4+4*long b)) 4).map (fun (n:Nat)=>(n:Int))=UF ((b.drop 4).take (4*long b)) (long b):=by
   rw [MW hb Zo,List.map_map,show (4+4*long b-4) / 4=long b by omega]
   unfold UF
   refine List.map_congr_left fun i hi=>?_
   rw [List.mem_range] at hi
   have h:get ((b.drop 4).take (4*long b)) ((4*i:Nat):Int) 4=get b (((4*i:Nat):Int)+4) 4:=QV (b:=b) (m:=4*long b) (p:=4*i) (q:=4) Zo hb Zo Zo
   show ((get b ((4+4*i:Nat):Int) 4:Nat):Int)=_
   rw [show ((4+4*i:Nat):Int)=((4*i:Nat):Int)+4 by omega,←h]
  unfold parts
  rw [ZX rfl,e]
  rfl
 ·have g0:get ((b.drop 4).take (4*long b)) 0 4=get (b.take (4+4*long b)) 4 4:=by
   exact kP
  have g4:get ((b.drop 4).take (4*long b)) 4 4=get (b.take (4+4*long b)) 8 4:=by
   exact kQ
  have e:(Ya (b.take (4+4*long b)) 12).map (fun (n:Nat)=>(((n / 65536:Nat):Int),((n % 65536:Nat):Int)))=T4 ((b.drop 4).take (4*long b)) (long b-2):=by
   rw [MW hb Zo,List.map_map,show (4+4*long b-12) / 4=long b-2 by omega]
   unfold T4
   refine List.map_congr_left fun i hi=>?_
   rw [List.mem_range] at hi
   have h4:=QV (b:=b) (m:=4*long b) (p:=8+4*i) (q:=4) Zo hb Zo Zo
   have hs:=vq (c:=(b.drop 4).take (4*long b)) (p:=8+4*i) (by rw [TU,RU];omega)
   have Rj:=NL ((b.drop 4).take (4*long b)) (((8+4*i:Nat):Int)+2)
   show (((get b ((12+4*i:Nat):Int) 4 / 65536:Nat):Int),((get b ((12+4*i:Nat):Int) 4 % 65536:Nat):Int))=_
   have e12:((12+4*i:Nat):Int)=((8+4*i:Nat):Int)+4:=by omega
   have h4':get ((b.drop 4).take (4*long b)) ((8+4*i:Nat):Int) 4=get b (((8+4*i:Nat):Int)+4) 4:=h4
   rw [e12,←h4',hs]
   generalize get ((b.drop 4).take (4*long b)) ((8+4*i:Nat):Int) 2=u
   generalize get ((b.drop 4).take (4*long b)) (((8+4*i:Nat):Int)+2) 2=v at *
   rw [show (u*65536+v) / 65536=u by omega,show (u*65536+v) % 65536=v by omega]
  unfold parts XP
  rw [Z6 Zd,e]
  simp only [g0,g4]
  rfl
 ·have g0:get ((b.drop 4).take (4*long b)) 0 4=get (b.take (4+4*long b)) 4 4:=by
   exact kP
  have g4:get ((b.drop 4).take (4*long b)) 4 4=get (b.take (4+4*long b)) 8 4:=by
   exact kQ
  have e:Ya (b.take (4+4*long b)) 12=[]:=by
   rw [MW hb Zo,show (4+4*long b-12) / 4=0 by omega]
   rfl
  unfold parts XP
  rw [Z6 Zd,e]
  simp only [g0,g4]
  rfl
theorem BJ (b:List UInt8):Ze b=Mc b:=by
 unfold Mc
 by_cases h1:b.length<4
 ·rw [ZX h1];unfold Ze;rw [ZX h1]
 rw [Z6 h1]
 by_cases h2:at8 b 0 / 32≠4
 ·rw [ZX h2];unfold Ze;rw [Z6 h1,ZX h2]
 rw [Z6 h2]
 have hg:=xC (b:=b) Zo
 have e0:Ze b=if (XR b).2=false then ((X8,0),4) else if (XR b).1=200∨(XR b).1=201 then Yc b else
   if (X3 b (XR b).1).2=false then ((X8,0),1) else if b.length<(X3 b (XR b).1).1 then ((X8,0),2) else ((parts (b.take (X3 b (XR b).1).1) (XR b).1,(X3 b (XR b).1).1),0):=by
  unfold Ze
  rw [Z6 h1,Z6 h2]
 by_cases k0:at8 b 1=200∨at8 b 1=201
 ·have hi:XR b=(at8 b 1,true):=by unfold XR;rw [ZX Zo]
  rw [ZX k0,e0,hi,Z6 Zi,ZX k0]
  exact zI Zo Zo k0
 rw [Z6 k0]
 by_cases k3:at8 b 1=203
 ·have hi:XR b=(203,true):=by unfold XR;rw [ZX Zo,k3]
  have hlen:X3 b 203=((long b+1)*4,decide (1≤at8 b 0 % 32) && decide (at8 b 0 % 32≤15) && decide ((long b+1)*4=4+4*(at8 b 0 % 32))):=by unfold X3;rw [hg];rfl
  rw [ZX k3,e0,hi,Z6 Zi,Z6 Zd,hlen]
  have Fz:WY 203 (at8 b 0 % 32)=at8 b 0 % 32:=rfl
  unfold VN
  rw [Xf,Fz]
  by_cases OO:at8 b 0 % 32<1∨15<at8 b 0 % 32∨long b≠at8 b 0 % 32
  ·rw [ZX (by simp only [Bool.and_eq_false_iff,decide_eq_false_iff_not];omega),ZX (show ((at8 b 0 % 32:Nat):Int)<1∨(15:Int)<((at8 b 0 % 32:Nat):Int)∨(long b:Int)≠((at8 b 0 % 32:Nat):Int) by omega)]
  ·rw [Z6 (by simp only [Bool.and_eq_false_iff,decide_eq_false_iff_not];omega),Z6 (show ¬(((at8 b 0 % 32:Nat):Int)<1∨(15:Int)<((at8 b 0 % 32:Nat):Int)∨(long b:Int)≠((at8 b 0 % 32:Nat):Int)) by omega)]
   dsimp only
   rw [show (long b+1)*4=4+4*long b by omega]
   by_cases hs:b.length<4+4*long b
   ·rw [ZX hs,ZX hs]
   ·rw [Z6 hs,Z6 hs,(K1 Zo).1,show at8 b 0 % 32=long b by omega]
 rw [Z6 k3]
 by_cases k5:at8 b 1=205∨at8 b 1=206
 ·rw [ZX k5]
  have hi:XR b=(at8 b 1,decide (at8 b 0 % 32=1)):=by unfold XR;rw [Z6 Zo,ZX k5]
  by_cases hm:at8 b 0 % 32≠1
  ·rw [ZX hm,e0,hi,ZX (by simpa using hm)]
  rw [Z6 hm]
  have hm':at8 b 0 % 32=1:=by omega
  rw [e0,hi,hm',Z6 Zi,Z6 k0]
  rcases k5 with k|k
  ·have hlen:X3 b 205=((long b+1)*4,decide (16≤(long b+1)*4) && decide ((long b+1)*4≤76)):=by unfold X3;rw [hg];rfl
   rw [k,ZX rfl,hlen]
   unfold VN
   by_cases OO:long b<3∨18<long b
   ·rw [ZX (by simp only [Bool.and_eq_false_iff,decide_eq_false_iff_not];omega),ZX (by rcases OO with h|h;exact Wc Zo;exact Wj (Wc Zo))]
   ·have hn:((long b:Int)-2).toNat=long b-2:=by omega
    have hw:WY 205 (long b-2)=long b:=by show 2+(long b-2)=long b;omega
    rw [Z6 (by simp only [Bool.and_eq_false_iff,decide_eq_false_iff_not];omega),hn,hw,Z6 (show ¬((long b:Int)-2<1∨(16:Int)<(long b:Int)-2∨(long b:Int)≠((long b:Nat):Int)) by omega)]
    dsimp only
    rw [show (long b+1)*4=4+4*long b by omega]
    by_cases hs:b.length<4+4*long b
    ·rw [ZX hs,ZX hs]
    ·rw [Z6 hs,Z6 hs,(K1 Zo).2.1 Zo]
  ·have hlen:X3 b 206=((long b+1)*4,decide ((long b+1)*4=12)):=by unfold X3;rw [hg];rfl
   rw [k,Z6 (show ¬(206:Nat)=205 by decide)]
   dsimp only
   rw [hlen]
   unfold VN
   by_cases OO:long b≠2
   ·rw [ZX (by simp only [decide_eq_false_iff_not];omega),ZX (by exact Wj (Wj (show (long b:Int)≠((2:Nat):Int) by omega)))]
   ·have hn:((long b:Int)-2).toNat=0:=by omega
    rw [Z6 (by simp only [decide_eq_false_iff_not];omega),hn,Z6 (show ¬((long b:Int)-2<0∨(0:Int)<(long b:Int)-2∨(long b:Int)≠((WY 206 0:Nat):Int)) by show ¬((long b:Int)-2<0∨(0:Int)<(long b:Int)-2∨(long b:Int)≠((2:Nat):Int));omega)]
    dsimp only
    rw [show (long b+1)*4=4+4*long b by omega]
    by_cases hs:b.length<4+4*long b
    ·rw [ZX hs,ZX hs]
    ·rw [Z6 hs,Z6 hs,(K1 Zo).2.2 Zo]
 ·rw [Z6 k5]
  have hi:XR b=(0,false):=by unfold XR;rw [Z6 Zo,Z6 k5]
  rw [e0,hi,ZX rfl]
end Go.Proofs.By
namespace Go.Proofs.By
open Go.RowKit Go.Proofs.Heap
open Go.Proofs.Rm (below_drewN)
theorem QA (v:Value) (k n:Nat) (c:List UInt8) (w:World) (hv:Yn w v c) (hn:n≤1000) (hk:k=200∨k=201∨k=203∨k=205∨(k=206∧n=0)) :
  Calls Tryz.prog 117 (Q6 (k:Int) (n:Int) v) w fun e w'=>(∃ a,e = .returned a∧TN w' a (XP k n c))∧Below w w w':=by
 rcases hk with rfl|rfl|rfl|rfl|⟨rfl,h0⟩
 ·exact zL v n c w hv hn
 ·exact zK v n c w hv hn
 ·exact wC v n c w hv hn
 ·exact Cc v n c w hv hn
 ·exact wD v n c w hv hn h0
set_option maxHeartbeats 40000000 in
theorem Es (v:Value) (b:List UInt8) (w:World) (hv:Yn w v b) (hb:b.length≤512) :
  Calls Tryz.prog 93 #[v] w fun e w'=>(∃ a,e = .returned (.tuple #[a,.int .i64 ((Ze b).1.2:Nat),.int .i64 (Ze b).2])∧TN w' a (Ze b).1.1)∧Below w w w':=by
 have HX:Hid (Ze b=Mc b):=BJ b
 have HV:Hid (∀ w',Below w w w'→Yn w' v b):=fun w' h=>hv.below h
 have Vj:Hid (∀ w2 er,w2.heap[w.heap.size]?=some (.cells Y9 173 (0,0))→Below w w w2→Ze b=((X8,0),er)→(∃ a,Ending.returned (.tuple (Qo Y9 0 er)) = .returned (.tuple #[a,.int .i64 ((Ze b).1.2:Nat),.int .i64 (Ze b).2])∧TN (w2.setRow w.heap.size Y9) a (Ze b).1.1)∧Below w w (w2.setRow w.heap.size Y9)):=fun w2 er h1 h2 h3=>by
  rw [h3]
  exact ⟨⟨_,rfl,Om ((FD w2).setRow h1 _)⟩,Z0 h2 (ZB _) _⟩
 have H0:Hid (GI w (((w.alloc (.cells Y9 173)).alloc (.cells Y9 173)).setRow (w.heap.size+1) Y9) Yz1):=GI.start w 0
 have hz:((w.alloc (.cells Y9 173)).alloc (.cells Y9 173)).heap[w.heap.size+1]?=some (.cells Y9 173 (0,0)):=by
  exact uS
 obtain ⟨va,c,rfl,TH,xH⟩:∃ a c,v = .slice a b.length c∧b.length≤c∧c≤maxLen:=by
  obtain ⟨a,c,h1,h2,h3,_⟩:=id hv
  exact ⟨a,c,h1,h2,h3⟩
 clear hv
 generalize Ze b=X at *
 go_enter Tryz.func93,Tryz.ntmps93
 go_upto_region 2 with (with_reducible refine ZY 173 (.tmp 5) (.tmp 12) rfl ?_;refine ZW rfl 173 (.tmp 5) (.tmp 12) rfl rfl (w.heap.size+1) Y9 rfl rfl 173 Y9 hz Zg Zg Zg ?_)
 clear hz
 generalize ((w.alloc (.cells Y9 173)).alloc (.cells Y9 173)).setRow (w.heap.size+1) Y9=w1 at *
 have H1:=H0
 clear H0
 by_cases h1:b.length<4
 ·have SM:Hid (X=((X8,0),2)):=by show _=_;rw [HX.o];unfold Mc;rw [ZX h1]
  have l1:decide ((b.length:Int)<4)=true:=Ws Zo
  have UD:=H1.o.z
  have VD:=H1.o.Y8
  go_wp2_with (first|(with_reducible refine Yp 173 (.tmp 5) rfl ?_;refine Yd rfl 173 (.tmp 5) rfl (w.heap.size+1) rfl 173 Y9 (0,0) _ VD Tryz.underlying173 rfl Zg ?_)|(with_reducible refine ZY 173 (.tmp 2) (.tmp 16) rfl ?_;refine ZW rfl 173 (.tmp 2) (.tmp 16) rfl rfl w.heap.size Y9 rfl rfl 173 Y9 UD Zg Zg Zg ?_))
  refine VR (v:= .tuple (Qo Y9 0 2)) ?_ rfl ?_
  ·exact gX
  exact Vj.o _ 2 UD H1.o.YI SM.o
 have l1:decide ((b.length:Int)<4)=false:=WN Zo
 obtain ⟨g,off,cap,e1,-,-,hc⟩:=SC (HV.o w1 H1.o.YI) Zo
 cases e1
 have d0:=hc 0 Zo
 have d1:=hc 1 Zo
 have d2:=hc 2 Zo
 have d3:=hc 3 Zo
 rw [Nat.add_zero] at d0
 have i0:(0:Int)<(b.length:Int):=by omega
 have i1:(1:Int)<(b.length:Int):=by omega
 have i2:(2:Int)<(b.length:Int):=by omega
 have i3:(3:Int)<(b.length:Int):=by omega
 have Lc:Hid (X=if at8 b 0 / 32≠4 then ((X8,0),1)
  else if at8 b 1=200∨at8 b 1=201 then VN b (at8 b 1) (at8 b 0 % 32:Nat) 0 15
  else if at8 b 1=203 then VN b 203 (at8 b 0 % 32:Nat) 1 15
  else if at8 b 1=205∨at8 b 1=206 then
   (if at8 b 0 % 32≠1 then ((X8,0),4)
   else if at8 b 1=205 then VN b 205 ((long b:Int)-2) 1 16 else VN b 206 ((long b:Int)-2) 0 0)
  else ((X8,0),4)):=by show _=_;rw [HX.o];unfold Mc;rw [Z6 h1]
 have kx:Hid (long b=at8 b 2*256+at8 b 3):=rfl
 have r0:=XM b 0
 have r1:=XM b 1
 have r2:=XM b 2
 have r3:=XM b 3
 clear hc HX h1
 by_cases h2:at8 b 0 / 32≠4
 ·have SM:Hid (X=((X8,0),1)):=by show _=_;rw [Lc.o,ZX h2]
  have q:(((at8 b 0:Nat):Int) / 32 != 4)=true:=by rw [TF];omega
  have UD:=H1.o.z
  have VD:=H1.o.Y8
  go_wp2_with (first|(with_reducible refine Yp 173 (.tmp 5) rfl ?_;refine Yd rfl 173 (.tmp 5) rfl (w.heap.size+1) rfl 173 Y9 (0,0) _ VD Tryz.underlying173 rfl Zg ?_)|(with_reducible refine ZY 173 (.tmp 2) (.tmp 22) rfl ?_;refine ZW rfl 173 (.tmp 2) (.tmp 22) rfl rfl w.heap.size Y9 rfl rfl 173 Y9 UD Zg Zg Zg ?_))
  refine VR (v:= .tuple (Qo Y9 0 1)) ?_ rfl ?_
  ·exact gX
  exact Vj.o _ 1 UD H1.o.YI SM.o
 have q2:(((at8 b 0:Nat):Int) / 32 != 4)=false:=by rw [bne_eq_false_iff_eq];omega
 rw [Z6 h2] at Lc
 obtain ⟨x0,Ro⟩:∃ x,x=at8 b 0:=⟨_,rfl⟩
 obtain ⟨x1,Tm⟩:∃ x,x=at8 b 1:=⟨_,rfl⟩
 obtain ⟨x2,OY⟩:∃ x,x=at8 b 2:=⟨_,rfl⟩
 obtain ⟨x3,OG⟩:∃ x,x=at8 b 3:=⟨_,rfl⟩
 obtain ⟨Lg,hLg⟩:∃ x,x=long b:=⟨_,rfl⟩
 obtain ⟨m,hm⟩:∃ m,m=x0 % 32:=⟨_,rfl⟩
 rw [←Ro,←Tm,←hLg,←hm] at Lc
 rw [←Ro] at d0 q2 r0
 rw [←Tm] at d1 r1
 rw [←OY] at d2 r2
 rw [←OG] at d3 r3
 have eu:Lg=x2*256+x3:=by rw [hLg,OY,OG];exact kx.o
 have qm:(x0:Int) % 32=(m:Int):=by omega
 have qa:IntKind.i64.wrap ((x2:Int)*256)=(x2:Int)*256:=Ua _ Zo
 have qb:IntKind.i64.wrap ((x2:Int)*256+(x3:Int))=(Lg:Int):=by rw [Ua _ Zo];omega
 have qs:IntKind.i64.wrap ((Lg:Int)-2)=(Lg:Int)-2:=Ua _ Zo
 have q4:IntKind.i64.wrap (4*(Lg:Int))=4*(Lg:Int):=Ua _ Zo
 obtain ⟨Z,hZ⟩:∃ Z:Nat,Z=4+4*Lg:=⟨_,rfl⟩
 have q5:IntKind.i64.wrap (4+4*(Lg:Int))=(Z:Int):=by rw [Ua _ Zo];omega
 have hm32:m<32:=by omega
 have hLb:Lg≤70000:=by omega
 have uL:Hid (∀ k n l u,VN b k n l u=if n<l∨u<n∨(Lg:Int)≠WY k n.toNat then ((X8,0),1) else if b.length<Z then ((X8,0),2) else ((XP k n.toNat ((b.drop 4).take (4*Lg)),Z),0)):=fun k n l u=>by unfold VN;rw [←hLg,hZ]
 have HZ:=Zh hZ
 clear eu
 have eX:4≤Z:=by omega
 clear hZ
 generalize VN b=RP at *
 have HK:x1=200∨x1=201∨x1=203∨x1=205∨x1=206∨(¬x1=200∧¬x1=201∧¬x1=203∧¬x1=205∧¬x1=206):=by omega
 clear kx Ro Tm OY OG hLg hm h2
 go_upto_region 8 with fail
 go_quiet (fail)
 have H1:=Zh (H1.o.below (below_drewN (YG _ _) nq))
 generalize w1.drewN nq=w2 at *
 clear d0 d1 d2 d3
 have Am:=Zh (fun (k n:Nat) (hn:n≤100000)=>zQ k n w2 hn)
 rcases HK with MX|jX|JP|zm|vQ|⟨MX,jX,JP,zm,vQ⟩
 ·have MF:Hid (X=RP x1 (m:Int) 0 15):=by show _=_;rw [Lc.o,ZX Zo]
  rw [uL.o,Xf,MX] at MF
  subst MX
  have CW:=Zh (Am.o 200 m Zo)
  have Fz:WY 200 m≤1000:=by unfold WY;simp;omega
  have CW:=CW
  generalize WY 200 m=R at *
  clear Lc uL Am
  have dl:decide ((m:Int)<0)=false:=WN Zo
  by_cases xM:15<m
  ·exact ig
  have dh:decide (15<(m:Int))=false:=WN Zo
  by_cases hw:Lg=R
  rotate_left
  ·exact ie
  have pK:Hid (X=if b.length<Z then ((X8,0),2) else ((XP 200 m ((b.drop 4).take (4*Lg)),Z),0)):=by show _=_;rw [MF.o,Z6 Zo]
  subst hw
  by_cases Vr:b.length<Z
  ·exact aR
  have dz:decide ((b.length:Int)<(Z:Int))=false:=WN Zo
  have SM:Hid (X=((XP 200 m ((b.drop 4).take (4*Lg)),Z),0)):=by show _=_;rw [pK.o,Z6 Vr]
  obtain ⟨a',U4,JO⟩:=WR (P:=Tryz.prog) Wn (some ⟨g,off,none⟩) b.length c 4 Z eX Zo TH
  have ME:Hid (∀ w',Below w w w'→Yn w' (.slice a' (Z-4) (c-4)) ((b.drop 4).take (4*Lg))):=fun w' h=>by
   exact qT
  have oO:∀ w,(Instr.slice 30 (.slice (some ⟨g,off,none⟩) b.length c) (some (.int .i64 4)) (some (.int .i64 (Z:Int))) none).run Tryz.prog w = .ok (.slice a' (Z-4) (c-4)) w:=U4
  have CI:=Zh (QA _ 200 m _ w2 (ME.o w2 H1.o.YI) Zo Zo)
  generalize XP 200 m ((b.drop 4).take (4*Lg))=i at *
  exact aK
 ·have MF:Hid (X=RP x1 (m:Int) 0 15):=by show _=_;rw [Lc.o,ZX Zo]
  rw [uL.o,Xf,jX] at MF
  subst jX
  have CW:=Zh (Am.o 201 m Zo)
  have Fz:WY 201 m≤1000:=by unfold WY;simp;omega
  have CW:=CW
  generalize WY 201 m=R at *
  clear Lc uL Am
  have dl:decide ((m:Int)<0)=false:=WN Zo
  by_cases xM:15<m
  ·exact ig
  have dh:decide (15<(m:Int))=false:=WN Zo
  by_cases hw:Lg=R
  rotate_left
  ·exact ie
  have pK:Hid (X=if b.length<Z then ((X8,0),2) else ((XP 201 m ((b.drop 4).take (4*Lg)),Z),0)):=by show _=_;rw [MF.o,Z6 Zo]
  subst hw
  by_cases Vr:b.length<Z
  ·exact aR
  have dz:decide ((b.length:Int)<(Z:Int))=false:=WN Zo
  have SM:Hid (X=((XP 201 m ((b.drop 4).take (4*Lg)),Z),0)):=by show _=_;rw [pK.o,Z6 Vr]
  obtain ⟨a',U4,JO⟩:=WR (P:=Tryz.prog) Wn (some ⟨g,off,none⟩) b.length c 4 Z eX Zo TH
  have ME:Hid (∀ w',Below w w w'→Yn w' (.slice a' (Z-4) (c-4)) ((b.drop 4).take (4*Lg))):=fun w' h=>by
   exact qT
  have oO:∀ w,(Instr.slice 30 (.slice (some ⟨g,off,none⟩) b.length c) (some (.int .i64 4)) (some (.int .i64 (Z:Int))) none).run Tryz.prog w = .ok (.slice a' (Z-4) (c-4)) w:=U4
  have CI:=Zh (QA _ 201 m _ w2 (ME.o w2 H1.o.YI) Zo Zo)
  generalize XP 201 m ((b.drop 4).take (4*Lg))=i at *
  exact aK
 ·have MF:Hid (X=RP 203 (m:Int) 1 15):=by show _=_;rw [Lc.o,Z6 Zo,ZX JP]
  rw [uL.o,Xf] at MF
  subst JP
  have CW:=Zh (Am.o 203 m Zo)
  have Fz:WY 203 m≤1000:=by unfold WY;simp;omega
  have CW:=CW
  generalize WY 203 m=R at *
  clear Lc uL Am
  by_cases vD:m<1
  ·have SM:Hid (X=((X8,0),1)):=by show _=_;rw [MF.o,ZX Zo]
   have dl:decide ((m:Int)<1)=true:=Ws Zo
   exact gT
  have dl:decide ((m:Int)<1)=false:=WN Zo
  by_cases xM:15<m
  ·exact ig
  have dh:decide (15<(m:Int))=false:=WN Zo
  by_cases hw:Lg=R
  rotate_left
  ·exact ie
  have pK:Hid (X=if b.length<Z then ((X8,0),2) else ((XP 203 m ((b.drop 4).take (4*Lg)),Z),0)):=by show _=_;rw [MF.o,Z6 Zo]
  subst hw
  by_cases Vr:b.length<Z
  ·exact aR
  have dz:decide ((b.length:Int)<(Z:Int))=false:=WN Zo
  have SM:Hid (X=((XP 203 m ((b.drop 4).take (4*Lg)),Z),0)):=by show _=_;rw [pK.o,Z6 Vr]
  obtain ⟨a',U4,JO⟩:=WR (P:=Tryz.prog) Wn (some ⟨g,off,none⟩) b.length c 4 Z eX Zo TH
  have ME:Hid (∀ w',Below w w w'→Yn w' (.slice a' (Z-4) (c-4)) ((b.drop 4).take (4*Lg))):=fun w' h=>by
   exact qT
  have oO:∀ w,(Instr.slice 30 (.slice (some ⟨g,off,none⟩) b.length c) (some (.int .i64 4)) (some (.int .i64 (Z:Int))) none).run Tryz.prog w = .ok (.slice a' (Z-4) (c-4)) w:=U4
  have CI:=Zh (QA _ 203 m _ w2 (ME.o w2 H1.o.YI) Zo Zo)
  generalize XP 203 m ((b.drop 4).take (4*Lg))=i at *
  exact aK
 ·have pJ:Hid (X=if m≠1 then ((X8,0),4) else RP 205 ((Lg:Int)-2) 1 16):=by show _=_;rw [Lc.o,Z6 Zo,Z6 Zo,ZX Zo];rw [ZX zm]
  subst zm
  clear Lc
  by_cases Az:m=1
  rotate_left
  ·exact aM
  have MF:Hid (X=RP 205 ((Lg:Int)-2) 1 16):=by show _=_;rw [pJ.o,Z6 Zo]
  rw [uL.o] at MF
  subst Az
  by_cases vD:(Lg:Int)-2<1
  ·have SM:Hid (X=((X8,0),1)):=by show _=_;rw [MF.o,ZX (Wc vD)]
   have dl:decide ((Lg:Int)-2<1)=true:=Ws vD
   have CW:=Zh (Am.o 0 0 Zo)
   exact gT
  have dl:decide ((Lg:Int)-2<1)=false:=WN vD
  by_cases xM:16<(Lg:Int)-2
  ·have SM:Hid (X=((X8,0),1)):=by show _=_;rw [MF.o,ZX (Wj (Wc xM))]
   have dh:decide (16<(Lg:Int)-2)=true:=Ws xM
   have CW:=Zh (Am.o 0 0 Zo)
   exact gT
  have dh:decide (16<(Lg:Int)-2)=false:=WN xM
  obtain ⟨N,hN⟩:∃ N:Nat,(Lg:Int)-2=(N:Int):=⟨Lg-2,Zo⟩
  rw [hN,Xf] at MF
  have CW:=Zh (Am.o 205 N Zo)
  have Fz:(WY 205 N:Int)=(Lg:Int):=by show ((2+N:Nat):Int)=_;omega
  rw [Fz] at CW MF
  rw [hN] at dl dh
  replace qs:=qs.trans hN
  have HNB:Hid ((N:Int)=(Lg:Int)-2∧¬(16:Int)<(Lg:Int)-2):=⟨hN.symm,xM⟩
  have pK:Hid (X=if b.length<Z then ((X8,0),2) else ((XP 205 N ((b.drop 4).take (4*Lg)),Z),0)):=by show _=_;rw [MF.o,Z6 Zo]
  clear MF pJ uL Am Fz hN vD xM
  by_cases Vr:b.length<Z
  ·exact aR
  have dz:decide ((b.length:Int)<(Z:Int))=false:=WN Zo
  have SM:Hid (X=((XP 205 N ((b.drop 4).take (4*Lg)),Z),0)):=by show _=_;rw [pK.o,Z6 Vr]
  obtain ⟨a',U4,JO⟩:=WR (P:=Tryz.prog) Wn (some ⟨g,off,none⟩) b.length c 4 Z eX Zo TH
  have ME:Hid (∀ w',Below w w w'→Yn w' (.slice a' (Z-4) (c-4)) ((b.drop 4).take (4*Lg))):=fun w' h=>by
   exact qT
  have oO:∀ w,(Instr.slice 30 (.slice (some ⟨g,off,none⟩) b.length c) (some (.int .i64 4)) (some (.int .i64 (Z:Int))) none).run Tryz.prog w = .ok (.slice a' (Z-4) (c-4)) w:=U4
  have CI:=Zh (QA _ 205 N _ w2 (ME.o w2 H1.o.YI) (by have:=HNB.o;omega) Zo)
  generalize XP 205 N ((b.drop 4).take (4*Lg))=i at *
  exact aK
 ·have pJ:Hid (X=if m≠1 then ((X8,0),4) else RP 206 ((Lg:Int)-2) 0 0):=by show _=_;rw [Lc.o,Z6 Zo,Z6 Zo,ZX Zo];rw [Z6 (show ¬x1=205 by omega)]
  subst vQ
  clear Lc
  by_cases Az:m=1
  rotate_left
  ·exact aM
  have MF:Hid (X=RP 206 ((Lg:Int)-2) 0 0):=by show _=_;rw [pJ.o,Z6 Zo]
  rw [uL.o] at MF
  subst Az
  by_cases vD:(Lg:Int)-2<0
  ·have SM:Hid (X=((X8,0),1)):=by show _=_;rw [MF.o,ZX (Wc vD)]
   have dl:decide ((Lg:Int)-2<0)=true:=Ws vD
   have CW:=Zh (Am.o 0 0 Zo)
   exact gT
  have dl:decide ((Lg:Int)-2<0)=false:=WN vD
  by_cases xM:0<(Lg:Int)-2
  ·have SM:Hid (X=((X8,0),1)):=by show _=_;rw [MF.o,ZX (Wj (Wc xM))]
   have dh:decide (0<(Lg:Int)-2)=true:=Ws xM
   have CW:=Zh (Am.o 0 0 Zo)
   exact gT
  have dh:decide (0<(Lg:Int)-2)=false:=WN xM
  obtain ⟨N,hN⟩:∃ N:Nat,(Lg:Int)-2=(N:Int):=⟨Lg-2,Zo⟩
  rw [hN,Xf] at MF
  have CW:=Zh (Am.o 206 N Zo)
  have Fz:(WY 206 N:Int)=(Lg:Int):=by show ((2:Nat):Int)=_;omega
  rw [Fz] at CW MF
  rw [hN] at dl dh
  replace qs:=qs.trans hN
  have HNB:Hid ((N:Int)=(Lg:Int)-2∧¬(0:Int)<(Lg:Int)-2):=⟨hN.symm,xM⟩
  have pK:Hid (X=if b.length<Z then ((X8,0),2) else ((XP 206 N ((b.drop 4).take (4*Lg)),Z),0)):=by show _=_;rw [MF.o,Z6 Zo]
  clear MF pJ uL Am Fz hN vD xM
  have dh2:decide (0<N)=false:=WN (by have:=HNB.o;omega)
  by_cases Vr:b.length<Z
  ·exact aR
  have dz:decide ((b.length:Int)<(Z:Int))=false:=WN Zo
  have SM:Hid (X=((XP 206 N ((b.drop 4).take (4*Lg)),Z),0)):=by show _=_;rw [pK.o,Z6 Vr]
  obtain ⟨a',U4,JO⟩:=WR (P:=Tryz.prog) Wn (some ⟨g,off,none⟩) b.length c 4 Z eX Zo TH
  have ME:Hid (∀ w',Below w w w'→Yn w' (.slice a' (Z-4) (c-4)) ((b.drop 4).take (4*Lg))):=fun w' h=>by
   exact qT
  have oO:∀ w,(Instr.slice 30 (.slice (some ⟨g,off,none⟩) b.length c) (some (.int .i64 4)) (some (.int .i64 (Z:Int))) none).run Tryz.prog w = .ok (.slice a' (Z-4) (c-4)) w:=U4
  have CI:=Zh (QA _ 206 N _ w2 (ME.o w2 H1.o.YI) (by have:=HNB.o;omega) (by have:=HNB.o;omega))
  generalize XP 206 N ((b.drop 4).take (4*Lg))=i at *
  exact aK
 ·have SM:Hid (X=((X8,0),4)):=by show _=_;rw [Lc.o,Z6 Zo,Z6 Zo,Z6 Zo]
  have e200:((x1:Int) == 200)=false:=by rw [WT];omega
  have e201:((x1:Int) == 201)=false:=by rw [WT];omega
  have e203:((x1:Int) == 203)=false:=by rw [WT];omega
  have e205:((x1:Int) == 205)=false:=by rw [WT];omega
  have e206:((x1:Int) == 206)=false:=by rw [WT];omega
  have CW:=Zh (Am.o 0 0 Zo)
  have UD:=H1.o.z
  have VD:=H1.o.Y8
  go_wp2_with (first|(go_at_call 116;refine CW.o.mono ?_;rintro e w' ⟨rfl,rfl⟩)|(with_reducible refine Yp 173 (.tmp 5) rfl ?_;refine Yd rfl 173 (.tmp 5) rfl (w.heap.size+1) rfl 173 Y9 (0,0) _ VD Tryz.underlying173 rfl Zg ?_)|(with_reducible refine ZY 173 (.tmp 2) (.tmp 43) rfl ?_;refine ZW rfl 173 (.tmp 2) (.tmp 43) rfl rfl w.heap.size Y9 rfl rfl 173 Y9 UD Zg Zg Zg ?_))
  refine VR (v:= .tuple (Qo Y9 0 4)) ?_ rfl ?_
  ·exact gX
  exact Vj.o _ 4 UD H1.o.YI SM.o
open Go.Proofs.Rm (Yw)
theorem GV (v:Value) (b:List UInt8) (w:World) (hv:Yn w v b) :
  Calls Tryz.prog 70 #[v] w fun e w'=>(∃ a,e = .returned (.tuple #[a,.int .i64 (Yy b).2])∧YV w' a (Yy b).1)∧Below w w w':=by
 have HX:Hid (Yy b=if 512<b.length then ([],5) else YT 8 b):=rfl
 have HV:Hid (∀ w',Below w w w'→Yn w' v b):=fun w' h=>hv.below h
 have hlen:=hv.len
 obtain ⟨va,c,rfl,TH,-⟩:=id hv
 clear hv TH
 generalize Yy b=X at *
 by_cases h1:512<b.length
 ·rw [ZX h1] at HX
  clear HV
  go_enter Tryz.func70,Tryz.ntmps70
  go_wp2_with fail
  go_ret2
  exact ⟨⟨.slice none 0 0,by rw [HX.o];rfl,by rw [HX.o];exact YV.nil _⟩,YG _ _⟩
 rw [Z6 h1] at HX
 have l512:decide (512<(b.length:Int))=false:=WN Zo
 have fT:Hid (YT 8 b=comb [] (YT (8-0) b)):=by
  show _=_
  unfold comb
  by_cases h:(YT 8 b).2≠0
  ·rw [ZX h]
   exact Kl h
  ·rw [Z6 h]
   have h:(YT 8 b).2=0:=by omega
   show YT 8 b=([]++(YT 8 b).1,0)
   rw [KF,←h]
 go_enter Tryz.func70,Tryz.ntmps70
 go_wp2_with fail
 go_loopw [0,4,5] (fun s0 s4 s5 w'=>∃ (j:Nat) (r:List UInt8) (ra:Option Addr) (rc:Nat) (L:List Sz),j≤8∧L.length=j∧r.length≤512∧s0 = .slice ra r.length rc∧sU s4=j∧s5 = .bool (decide (j=0))∧Below w w w'∧w'.ownsRow w 173 10 s4 j (L.flatMap Y6)∧(∀ x∈L,UY w' x)∧Hid (∀ w'',Below w w w''→Yn w'' (.slice ra r.length rc) r)∧Hid ((j=0∨0<r.length)→YT 8 b=comb (L.map (·.i)) (YT (8-j) r))∧Hid (¬(j=0∨0<r.length)→YT 8 b=(L.map (·.i),0))) (fun s0 s4 s5 _=>9-sU s4)
 case atStart=>exact ⟨0,b,va,c,[],TS _,rfl,Zo,rfl,rfl,rfl,YG _ _,Us _ _ _ _,fun _ h=>by (exact absurd h Zi),HV.o,fun _=>fT.o,fun h=>absurd (Wc rfl) h⟩
 case round=>
  clear fT HV
  obtain ⟨j,r,ra,rc,L,hj,bS,hr,rfl,-,rfl,SD,YO,OQ,HR,HG,HE⟩:=hrel
  obtain ⟨oa,oc,rfl,-,-⟩:=Row.ZV YO
  have Rf:=Zh SD
  have Yu:=Zh YO
  have Hf:=Zh OQ
  have Vr:=SD.size
  have HLJ:=Zh bS
  clear SD YO OQ bS
  by_cases hgo:j=0∨0<r.length
  rotate_left
  ·have E0:Hid (X=(L.map (·.i),0)):=by show _=_;rw [HX.o,HE.o hgo]
   have jm:decide (j=0)=false:=WN Zo
   have hr0:r.length=0:=by omega
   have hrD:decide (0<(r.length:Int))=false:=WN Zo
   rw [jm]
   clear HG HE HX hgo
   go_wp2_with fail
   go_ret2
   exact ⟨⟨_,by rw [E0.o];rfl,by rw [E0.o];exact ⟨L,rfl,by rw [HLJ.o];exact Row.ZV Yu.o,Hf.o⟩⟩,Rf.o⟩
  have HGO:=HG.o hgo
  have Pt:=Zh HGO
  clear HG HGO HE
  by_cases h8:j=8
  ·subst h8
   have hrD:decide (0<(r.length:Int))=true:=Ws Zo
   have hrD2:decide (0<r.length)=true:=Ws Zo
   have E0:Hid (X=([],3)):=by show _=_;rw [HX.o,Pt.o];rfl
   have jm:decide (8=0)=false:=by decide
   rw [jm]
   clear HX Pt hgo
   go_wp2_with fail
   go_ret2
   exact ⟨⟨.slice none 0 0,by rw [E0.o];rfl,by rw [E0.o];exact YV.nil _⟩,Rf.o⟩
  have e8:((j:Int) == 8)=false:=by rw [WT];omega
  obtain ⟨q,hq⟩:∃ q,8-j=q+1:=⟨7-j,Zo⟩
  rw [hq] at Pt
  have CI:=Zh (Es _ r wr (HR.o _ Rf.o) hr)
  have mi:r.length≤rc:=by
   have h:=HR.o _ Rf.o
   obtain ⟨a1,c1,h1,h2,_⟩:=h
   injection h1 with _ _ h1
   omega
  have mO:=Zh (Ij (b:=r))
  have HE:=Zh (A_ (L.map (·.i)) q (r:=r))
  have Lb:=Zh (E9 (L.map (·.i)) q (r:=r))
  have HM:=Zh (E_ (L.map (·.i)) q (r:=r))
  generalize Ze r=Y at *
  obtain ⟨⟨i,n⟩,er⟩:=Y
  dsimp only at CI mO HE Lb HM
  have fx:decide (j=0)=true∨(decide (j=0)=false∧decide (0<(r.length:Int))=true∧decide (0<r.length)=true):=by
   by_cases h:j=0
   ·exact Wc (Ws h)
   ·exact Wj ⟨WN h,Ws Zo,Ws Zo⟩
  rcases fx with jm|⟨jm,hrD,hrD2⟩
  ·exact Yx4
  ·exact Yx4
end Go.Proofs.By
