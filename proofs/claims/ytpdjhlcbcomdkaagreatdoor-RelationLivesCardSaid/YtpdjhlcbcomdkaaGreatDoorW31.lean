/- Part of a proof. -/
import Derived.Test.YtpdjhlcbcomdkaaGreatDoorW30
set_option linter.unusedVariables false
set_option linter.unusedSimpArgs false
set_option maxRecDepth 100000
set_option maxHeartbeats 16000000
open Go Go.Q Go.Qr
namespace Go.Proofs.By
open Go.RowKit Go.Proofs.Heap Go.Proofs
theorem xX (v:Value) (n:Nat) (c:List UInt8) (w:World) (hv:X9 w v c) (hn:n≤1000) :
  Calls Tryz.prog 117 (Q7 200 (n:Int) v) w fun e w'=>(∃ a,e = .returned a∧Td w' a (Xu 200 n c))∧Below w w w':=by
 have CR:=Zh (fun (p q:Int) (w':World) (h:Below w w w')=>Rz v c p q w' (hv.below h))
 obtain ⟨ss,Kn⟩:∃ x:Nat,x=get c 0 4:=⟨_,rfl⟩
 have mE:=Zh (fun (w':World) (h:Below w w w')=>CR.o 0 4 w' h)
 rw [←Kn] at mE
 have bss:IntKind.u32.wrap (ss:Int)=(ss:Int):=by have:=WX c 0;rw [NW];omega
 obtain ⟨nt,hnt⟩:∃ x:Nat,x=get c 4 8:=⟨_,rfl⟩
 have Cnt:=Zh (fun (w':World) (h:Below w w w')=>CR.o 4 8 w' h)
 rw [←hnt] at Cnt
 obtain ⟨tm,eQ⟩:∃ x:Nat,x=get c 12 4:=⟨_,rfl⟩
 have Ctm:=Zh (fun (w':World) (h:Below w w w')=>CR.o 12 4 w' h)
 rw [←eQ] at Ctm
 have btm:IntKind.u32.wrap (tm:Int)=(tm:Int):=by have:=WX c 12;rw [NW];omega
 obtain ⟨pk,eB⟩:∃ x:Nat,x=get c 16 4:=⟨_,rfl⟩
 have Cpk:=Zh (fun (w':World) (h:Below w w w')=>CR.o 16 4 w' h)
 rw [←eB] at Cpk
 have bpk:IntKind.u32.wrap (pk:Int)=(pk:Int):=by have:=WX c 16;rw [NW];omega
 obtain ⟨oc,hoc⟩:∃ x:Nat,x=get c 20 4:=⟨_,rfl⟩
 have Coc:=Zh (fun (w':World) (h:Below w w w')=>CR.o 20 4 w' h)
 rw [←hoc] at Coc
 have boc:IntKind.u32.wrap (oc:Int)=(oc:Int):=by have:=WX c 20;rw [NW];omega
 have HX:Hid (Xu 200 n c=⟨200,(ss:Int),(nt:Int),(tm:Int),(pk:Int),(oc:Int),Vl c 24 n,[],0,[]⟩):=by
  show _=_
  unfold Xu
  rw [Kn,hnt,eQ,eB,hoc]
  simp
 generalize Xu 200 n c=X at *
 clear Kn hnt eQ eB hoc
 have H1:Hid (GI w (((w.alloc (.cells YY 173)).alloc (.cells YY 173)).setRow (w.heap.size+1) nY) Yz10):=GI.start w 200
 have hz:((w.alloc (.cells YY 173)).alloc (.cells YY 173)).heap[w.heap.size+1]?=some (.cells YY 173 (0,0)):=by
  exact sk
 clear hv
 go_enter Tryz.func117,Tryz.ntmps117
 go_upto_region 2 with (with_reducible refine ZU 173 (.tmp 7) (.tmp 11) rfl ?_;refine ZW rfl 173 (.tmp 7) (.tmp 11) rfl rfl (w.heap.size+1) nY rfl rfl 173 YY hz ZB ZB ZB ?_)
 clear hz
 generalize ((w.alloc (.cells YY 173)).alloc (.cells YY 173)).setRow (w.heap.size+1) nY=w1 at *
 have z1:=cell_of H1.o.Za 1
 simp only [SK,S6,SJ] at z1
 have f1:=ZO H1.o.Za 1
 go_upto_region 5 with (go_at_call 118;refine (mE.o _ H1.o.Zj).mono ?_;rintro e w' ⟨rfl,rfl⟩)
 have H2:Hid (GI w (w1.setCell ⟨w.heap.size+1,1,none⟩ (.int .u32 (ss:Int))) (Qd 200 (ss:Int) 0 0 0 0 none 0 0 none 0 0 0 none 0 0)):=H1.o.set 1 (.int .u32 (ss:Int))
 clear z1 f1
 generalize w1.setCell ⟨w.heap.size+1,1,none⟩ (.int .u32 (ss:Int))=w2 at *
 have z2:=cell_of H2.o.Za 2
 simp only [SK,S6,SJ] at z2
 have f2:=ZO H2.o.Za 2
 go_upto_region 8 with (go_at_call 118;refine (Cnt.o _ H2.o.Zj).mono ?_;rintro e w' ⟨rfl,rfl⟩)
 have H3:Hid (GI w (w2.setCell ⟨w.heap.size+1,2,none⟩ (.int .u64 (nt:Int))) (Qd 200 (ss:Int) (nt:Int) 0 0 0 none 0 0 none 0 0 0 none 0 0)):=H2.o.set 2 (.int .u64 (nt:Int))
 clear z2 f2
 generalize w2.setCell ⟨w.heap.size+1,2,none⟩ (.int .u64 (nt:Int))=w3 at *
 have z3:=cell_of H3.o.Za 3
 simp only [SK,S6,SJ] at z3
 have f3:=ZO H3.o.Za 3
 go_upto_region 9 with (go_at_call 118;refine (Ctm.o _ H3.o.Zj).mono ?_;rintro e w' ⟨rfl,rfl⟩)
 have H4:Hid (GI w (w3.setCell ⟨w.heap.size+1,3,none⟩ (.int .u32 (tm:Int))) (Qd 200 (ss:Int) (nt:Int) (tm:Int) 0 0 none 0 0 none 0 0 0 none 0 0)):=H3.o.set 3 (.int .u32 (tm:Int))
 clear z3 f3
 generalize w3.setCell ⟨w.heap.size+1,3,none⟩ (.int .u32 (tm:Int))=w4 at *
 have z4:=cell_of H4.o.Za 4
 simp only [SK,S6,SJ] at z4
 have f4:=ZO H4.o.Za 4
 go_upto_region 10 with (go_at_call 118;refine (Cpk.o _ H4.o.Zj).mono ?_;rintro e w' ⟨rfl,rfl⟩)
 have H5:Hid (GI w (w4.setCell ⟨w.heap.size+1,4,none⟩ (.int .u32 (pk:Int))) (Qd 200 (ss:Int) (nt:Int) (tm:Int) (pk:Int) 0 none 0 0 none 0 0 0 none 0 0)):=H4.o.set 4 (.int .u32 (pk:Int))
 clear z4 f4
 generalize w4.setCell ⟨w.heap.size+1,4,none⟩ (.int .u32 (pk:Int))=w5 at *
 have z5:=cell_of H5.o.Za 5
 simp only [SK,S6,SJ] at z5
 have f5:=ZO H5.o.Za 5
 go_upto_region 11 with (go_at_call 118;refine (Coc.o _ H5.o.Zj).mono ?_;rintro e w' ⟨rfl,rfl⟩)
 have H6:Hid (GI w (w5.setCell ⟨w.heap.size+1,5,none⟩ (.int .u32 (oc:Int))) (Qd 200 (ss:Int) (nt:Int) (tm:Int) (pk:Int) (oc:Int) none 0 0 none 0 0 0 none 0 0)):=H5.o.set 5 (.int .u32 (oc:Int))
 clear z5 f5
 generalize w5.setCell ⟨w.heap.size+1,5,none⟩ (.int .u32 (oc:Int))=w6 at *
 go_wp2_with fail
 go_loopw [8,9] (fun s8 s9 w'=>∃ (i pos:Nat) (a:Option Addr) (q:Nat),i≤n∧pos=24+24*i∧s9 = .int .i64 (i:Int)∧s8 = .int .i64 (pos:Int)∧GI w w' (Qd 200 (ss:Int) (nt:Int) (tm:Int) (pk:Int) (oc:Int) a i q none 0 0 0 none 0 0)∧w'.ownsRow w 228 7 (.slice a i q) i ((Vl c 24 i).flatMap Xf)) (fun _ s9 _=>n-(intOf s9).toNat)
 case atStart=>exact ⟨0,24,none,0,Zo,Zo,rfl,rfl,H6.o,Ua _ _ _ _⟩
 case round=>
  obtain ⟨i,pos,a,q,hi,QQ,rfl,rfl,Er,YJ⟩:=hrel
  have HG:=Zh Er
  have HO:=Zh YJ
  clear Er YJ H6
  by_cases GW:i<n
  ·obtain ⟨x0,QU⟩:∃ x:Nat,x=get c (pos:Int) 4:=⟨_,rfl⟩
   obtain ⟨x1,S9⟩:∃ x:Nat,x=get c ((pos:Int)+4) 1:=⟨_,rfl⟩
   obtain ⟨x2,Ol⟩:∃ x:Nat,x=get c ((pos:Int)+5) 3:=⟨_,rfl⟩
   obtain ⟨x3,Pv⟩:∃ x:Nat,x=get c ((pos:Int)+8) 4:=⟨_,rfl⟩
   obtain ⟨x4,L5⟩:∃ x:Nat,x=get c ((pos:Int)+12) 4:=⟨_,rfl⟩
   obtain ⟨x5,JQ⟩:∃ x:Nat,x=get c ((pos:Int)+16) 4:=⟨_,rfl⟩
   obtain ⟨x6,eV⟩:∃ x:Nat,x=get c ((pos:Int)+20) 4:=⟨_,rfl⟩
   have Mb:Hid (Vl c 24 (i+1)=Vl c 24 i++[⟨x0,x1,x2,x3,x4,x5,x6⟩]):=by
    show _=_
    rw [QU,S9,Ol,Pv,L5,JQ,eV,QQ]
    unfold Vl
    rw [ru,N7]
    rfl
   have C0:=Zh (fun (w':World) (h:Below w w w')=>CR.o (pos:Int) 4 w' h)
   rw [←QU] at C0
   have N9:IntKind.u32.wrap (x0:Int)=(x0:Int):=by have:=WX c (pos:Int);rw [NW];omega
   have C1:=Zh (fun (w':World) (h:Below w w w')=>CR.o ((pos:Int)+4) 1 w' h)
   rw [←S9] at C1
   have YZ:IntKind.u8.wrap (x1:Int)=(x1:Int):=by have:=uQ c ((pos:Int)+4);rw [IntKind.wrap_u8];omega
   have Ew:IntKind.i64.wrap ((pos:Int)+4)=(pos:Int)+4:=Ty _ Zo
   have C2:=Zh (fun (w':World) (h:Below w w w')=>CR.o ((pos:Int)+5) 3 w' h)
   rw [←Ol] at C2
   have Y0:IntKind.u32.wrap (x2:Int)=(x2:Int):=by have:=uR c ((pos:Int)+5);rw [NW];omega
   have hp2:IntKind.i64.wrap ((pos:Int)+5)=(pos:Int)+5:=Ty _ Zo
   have C3:=Zh (fun (w':World) (h:Below w w w')=>CR.o ((pos:Int)+8) 4 w' h)
   rw [←Pv] at C3
   have VH:IntKind.u32.wrap (x3:Int)=(x3:Int):=by have:=WX c ((pos:Int)+8);rw [NW];omega
   have hp3:IntKind.i64.wrap ((pos:Int)+8)=(pos:Int)+8:=Ty _ Zo
   have C4:=Zh (fun (w':World) (h:Below w w w')=>CR.o ((pos:Int)+12) 4 w' h)
   rw [←L5] at C4
   have OE:IntKind.u32.wrap (x4:Int)=(x4:Int):=by have:=WX c ((pos:Int)+12);rw [NW];omega
   have hp4:IntKind.i64.wrap ((pos:Int)+12)=(pos:Int)+12:=Ty _ Zo
   have C5:=Zh (fun (w':World) (h:Below w w w')=>CR.o ((pos:Int)+16) 4 w' h)
   rw [←JQ] at C5
   have Lj:IntKind.u32.wrap (x5:Int)=(x5:Int):=by have:=WX c ((pos:Int)+16);rw [NW];omega
   have hp5:IntKind.i64.wrap ((pos:Int)+16)=(pos:Int)+16:=Ty _ Zo
   have C6:=Zh (fun (w':World) (h:Below w w w')=>CR.o ((pos:Int)+20) 4 w' h)
   rw [←eV] at C6
   have Ep:IntKind.u32.wrap (x6:Int)=(x6:Int):=by have:=WX c ((pos:Int)+20);rw [NW];omega
   have hp6:IntKind.i64.wrap ((pos:Int)+20)=(pos:Int)+20:=Ty _ Zo
   have iO:IntKind.i64.wrap ((pos:Int)+24)=(pos:Int)+24:=Ty _ Zo
   have Ex:pos≤100000:=by omega
   have N0:=Zh QQ
   clear QQ QU S9 Ol Pv L5 JQ eV
   go_upto_region 19 with fail
   have HG:=Zh (HG.o.below (YH _ _).drew)
   have HO:=Zh (Yx HO.o (YH _ _).drew)
   have k0:(wr.drew).cell? ⟨w.heap.size+1,6,none⟩=some (.slice a i q):=Zc HG.o.Za 6 rfl
   refine Sd ?_
   refine Z_.Zu (d:=40) (S:=(fun w'=>w'.cell? ⟨w.heap.size+1,6,none⟩=some (.slice a i q))) ZB ?_ (fun _=>?_)
   ·(try dsimp only)
    exact k0
   refine YP 0 (h:=YP 2 (h:=YP 3 (h:=YP 6 (h:=YP 7 (h:=YP 8 (h:=YP 11 (h:=YP 12 (h:=YP 13 (h:=YP 16 (h:=YP 17 (h:=YP 18 (h:=YP 21 (h:=YP 22 (h:=YP 23 (h:=YP 26 (h:=YP 27 (h:=YP 28 (h:=YP 31 (h:=YP 32 (h:=YP 33 (h:=YK 1 (h:=?_))))))))))))))))))))))
   refine YR 4 (h:=fun K hK=>?_)
   go_simp
   refine (C0.o _ HG.o.Zj).mono ?_
   rintro e w' ⟨rfl,rfl⟩
   go_wp2_with fail
   refine Z_.Y_ hK _ _ ?_ (fun _=>?_)
   ·(try dsimp only)
    first|exact k2|exact k1|exact k0
   clear hK K
   try simp only [Z_.pt]
   refine YP 5 (h:=?_)
   refine YR 9 (h:=fun K hK=>?_)
   go_simp
   refine (C1.o _ HG.o.Zj).mono ?_
   rintro e w' ⟨rfl,rfl⟩
   go_wp2_with fail
   refine Z_.Y_ hK _ _ ?_ (fun _=>?_)
   ·(try dsimp only)
    first|exact k2|exact k1|exact k0
   clear hK K
   try simp only [Z_.pt]
   refine YP 10 (h:=?_)
   refine YR 14 (h:=fun K hK=>?_)
   go_simp
   refine (C2.o _ HG.o.Zj).mono ?_
   rintro e w' ⟨rfl,rfl⟩
   go_wp2_with fail
   refine Z_.Y_ hK _ _ ?_ (fun _=>?_)
   ·(try dsimp only)
    first|exact k2|exact k1|exact k0
   clear hK K
   try simp only [Z_.pt]
   refine YP 15 (h:=?_)
   refine YR 19 (h:=fun K hK=>?_)
   go_simp
   refine (C3.o _ HG.o.Zj).mono ?_
   rintro e w' ⟨rfl,rfl⟩
   go_wp2_with fail
   refine Z_.Y_ hK _ _ ?_ (fun _=>?_)
   ·(try dsimp only)
    first|exact k2|exact k1|exact k0
   clear hK K
   try simp only [Z_.pt]
   refine YP 20 (h:=?_)
   refine YR 24 (h:=fun K hK=>?_)
   go_simp
   refine (C4.o _ HG.o.Zj).mono ?_
   rintro e w' ⟨rfl,rfl⟩
   go_wp2_with fail
   refine Z_.Y_ hK _ _ ?_ (fun _=>?_)
   ·(try dsimp only)
    first|exact k2|exact k1|exact k0
   clear hK K
   try simp only [Z_.pt]
   refine YP 25 (h:=?_)
   refine YR 29 (h:=fun K hK=>?_)
   go_simp
   refine (C5.o _ HG.o.Zj).mono ?_
   rintro e w' ⟨rfl,rfl⟩
   go_wp2_with fail
   refine Z_.Y_ hK _ _ ?_ (fun _=>?_)
   ·(try dsimp only)
    first|exact k2|exact k1|exact k0
   clear hK K
   try simp only [Z_.pt]
   refine YP 30 (h:=?_)
   refine YR 34 (h:=fun K hK=>?_)
   go_simp
   refine (C6.o _ HG.o.Zj).mono ?_
   rintro e w' ⟨rfl,rfl⟩
   go_wp2_with fail
   refine Z_.Y_ hK _ _ ?_ (fun _=>?_)
   ·(try dsimp only)
    first|exact k2|exact k1|exact k0
   clear hK K
   try simp only [Z_.pt]
   refine YP 35 (h:=YP 36 (h:=?_))
   refine YR 37 (h:=fun K hK=>?_)
   refine Xk Zr M9 (.tmp 87) Zr (Q.Qr (x0:Int) (x1:Int) (x2:Int) (x3:Int) (x4:Int) (x5:Int) (x6:Int)) Zr Zr Zd ?_
   have HG:=Zh (HG.o.below (Z' wr.drew (.cells (Q.Qr (x0:Int) (x1:Int) (x2:Int) (x3:Int) (x4:Int) (x5:Int) (x6:Int)) 228)))
   have HO:=Zh (Yx HO.o (Z' wr.drew (.cells (Q.Qr (x0:Int) (x1:Int) (x2:Int) (x3:Int) (x4:Int) (x5:Int) (x6:Int)) 228)))
   have k1:=cell_of HG.o.Za 6
   simp only [SK,S6,SJ] at k1
   refine Z_.Y_ hK _ _ ?_ (fun _=>?_)
   ·(try dsimp only)
    first|exact k2|exact k1|exact k0
   clear hK K
   try simp only [Z_.pt]
   refine YR 38 (h:=fun K hK=>?_)
   refine Zp Zr (.tmp 52) (.tmp 88) 170 Zr w.heap.size M9 (.slice a i q) i ((Vl c 24 i).flatMap Xf) Zr HO.o _ 1 ([(⟨x0,x1,x2,x3,x4,x5,x6⟩:rG)].flatMap Xf) Zr (VF wr.drew 228 1 ([(⟨x0,x1,x2,x3,x4,x5,x6⟩:rG)].flatMap Xf) Zd) rfl (U' fun x _=>Ci x) Zo Zo ?_ ?_
   ·exact HG.o.Zj.size
   intro v' w6 I2 zq
   obtain ⟨na,nq,NZ,-⟩:=Row.Z6 I2.o
   subst NZ
   have HG:=Zh (HG.o.grown HO.o Zd zq.o)
   have HO:Hid (w6.ownsRow w 228 7 (.slice na (i+1) nq) (i+1) ((Vl c 24 i++[(⟨x0,x1,x2,x3,x4,x5,x6⟩:rG)]).flatMap Xf)):=(by have h:=I2.o;rw [←O_] at h;exact h)
   exact Yx50
  ·have wY:i=n:=by omega
   subst wY
   have SH:=Zh (Row.Z6 HO.o)
   have Ub:=HG.o.z
   have UN:=HG.o.Za
   go_wp2_with (first|(with_reducible refine Y8 173 (.tmp 7) rfl ?_;refine Y9 rfl 173 (.tmp 7) rfl (w.heap.size+1) rfl 173 (Qd 200 (ss:Int) (nt:Int) (tm:Int) (pk:Int) (oc:Int) a i q none 0 0 0 none 0 0) (0,0) _ UN Tryz.underlying173 rfl ZB ?_)|(with_reducible refine ZU 173 (.tmp 6) (.tmp 125) rfl ?_;refine ZW rfl 173 (.tmp 6) (.tmp 125) rfl rfl w.heap.size (Qd 200 (ss:Int) (nt:Int) (tm:Int) (pk:Int) (oc:Int) a i q none 0 0 0 none 0 0) rfl rfl 173 YY Ub ZB ZB ZB ?_))
   refine VJ (v:= .agg (Qd 200 (ss:Int) (nt:Int) (tm:Int) (pk:Int) (oc:Int) a i q none 0 0 0 none 0 0)) ?_ rfl ?_
   ·exact results_cell_row Zr _ _ w.heap.size 173 (Qd 200 (ss:Int) (nt:Int) (tm:Int) (pk:Int) (oc:Int) a i q none 0 0 0 none 0 0) (0,0) _ Zr (setRow_heap _ _ _ _ _ _ Ub) Tryz.underlying173 rfl ZB
   refine ⟨⟨_,rfl,?_⟩,Z3 HG.o.Zj (Zw _) _⟩
   rw [HX.o]
   have hr:Uo wr ⟨⟨200,(ss:Int),(nt:Int),(tm:Int),(pk:Int),(oc:Int),Vl c 24 i,[],0,[]⟩,.slice a i q,.slice none 0 0,.slice none 0 0⟩:=⟨by show Row wr _ _ (Vl c 24 i).length _;rw [show (Vl c 24 i).length=i by unfold Vl;rw [Tx,List.length_range]];exact SH.o,Row.nil _ _,Row.nil _ _⟩
   have Nf:=Uo.setRow hr Ub (Qd 200 (ss:Int) (nt:Int) (tm:Int) (pk:Int) (oc:Int) a i q none 0 0 0 none 0 0)
   exact ⟨_,_,_,rfl,Nf.b,Nf.g,Nf.p⟩
def long (b:List UInt8):Nat:=at8 b 2*256+at8 b 3
theorem uS {b:List UInt8} (h:4≤b.length):get b 2 2=long b:=by
 match b,h with
 | x0 :: x1 :: x2 :: x3 :: t,_=>
  have hw:within (x0 :: x1 :: x2 :: x3 :: t).length 2 2=true:=within_iff.2 ⟨by decide,by decide,by decide,by simp;omega⟩
  unfold get
  rw [ZQ hw]
  simp [be,long,at8]
theorem QC {b:List UInt8} {m p q:Nat} (h1:p+q≤m) (h2:4+m≤b.length) (hq:1≤q) (hq8:q≤8):get ((b.drop 4).take m) (p:Int) (q:Int)=get b ((p:Int)+4) (q:Int):=by
 have hl:((b.drop 4).take m).length=m:=by rw [Tg,Rx];omega
 have w1:within ((b.drop 4).take m).length (p:Int) (q:Int)=true:=within_iff.2 ⟨Zo,Zo,Zo,by rw [hl];omega⟩
 have w2:within b.length ((p:Int)+4) (q:Int)=true:=within_iff.2 ⟨Zo,Zo,Zo,Zo⟩
 unfold get
 rw [ZQ w1,ZQ w2]
 congr 1
 have e1:((p:Int)+4).toNat=4+p:=by omega
 have e2:(p:Int).toNat=p:=by omega
 have e3:(q:Int).toNat=q:=by omega
 rw [e1,e2,e3,List.drop_take,List.drop_drop,List.take_take,Nat.min_eq_left Zo]
theorem Ct {b:List UInt8} {n p q:Nat} (h1:p+q≤n) (h2:n≤b.length) (hq:1≤q) (hq8:q≤8):get (b.take n) (p:Int) (q:Int)=get b (p:Int) (q:Int):=by
 have hl:(b.take n).length=n:=by rw [Tg];omega
 have w1:within (b.take n).length (p:Int) (q:Int)=true:=within_iff.2 ⟨Zo,Zo,Zo,by rw [hl];omega⟩
 have w2:within b.length (p:Int) (q:Int)=true:=within_iff.2 ⟨Zo,Zo,Zo,Zo⟩
 unfold get
 rw [ZQ w1,ZQ w2]
 congr 1
 have e2:(p:Int).toNat=p:=by omega
 have e3:(q:Int).toNat=q:=by omega
 rw [e2,e3,List.drop_take,List.take_take,Nat.min_eq_left Zo]
theorem sN {c:List UInt8} {p:Nat} (h:p+4≤c.length):get c (p:Int) 4=get c (p:Int) 2*65536+get c ((p:Int)+2) 2:=by
 have w1:within c.length (p:Int) 4=true:=within_iff.2 ⟨by decide,by decide,Zo,Zo⟩
 have w2:within c.length (p:Int) 2=true:=within_iff.2 ⟨by decide,by decide,Zo,Zo⟩
 have w3:within c.length ((p:Int)+2) 2=true:=within_iff.2 ⟨by decide,by decide,Zo,Zo⟩
 unfold get
 rw [ZQ w1,ZQ w2,ZQ w3]
 have e1:((p:Int)+2).toNat=p+2:=by omega
 have e2:(p:Int).toNat=p:=by omega
 rw [e1,e2]
 have hd:∃ a0 a1 a2 a3 t,c.drop p=a0 :: a1 :: a2 :: a3 :: t:=by
  have hl:4≤(c.drop p).length:=by rw [Rx];omega
  match c.drop p,hl with
  | a0 :: a1 :: a2 :: a3 :: t,_=>exact ⟨a0,a1,a2,a3,t,rfl⟩
 obtain ⟨a0,a1,a2,a3,t,hd⟩:=hd
 have rz:c.drop (p+2)=a2 :: a3 :: t:=by rw [←List.drop_drop,hd];rfl
 rw [hd,rz]
 show be [a0,a1,a2,a3]=be [a0,a1]*65536+be [a2,a3]
 simp only [be,List.foldl]
 omega
def Vh (b:List UInt8) (k:Nat) (n least most:Int):(RF × Nat) × Int:=
 if n<least∨most<n∨(long b:Int)≠Ws k n.toNat then ((XX,0),1)
 else if b.length<4+4*long b then ((XX,0),2)
 else ((Xu k n.toNat ((b.drop 4).take (4*long b)),4+4*long b),0)
def LG (b:List UInt8):(RF × Nat) × Int:=
 if b.length<4 then ((XX,0),2)
 else if at8 b 0 / 32≠4 then ((XX,0),1)
 else if at8 b 1=200∨at8 b 1=201 then Vh b (at8 b 1) (at8 b 0 % 32:Nat) 0 15
 else if at8 b 1=203 then Vh b 203 (at8 b 0 % 32:Nat) 1 15
 else if at8 b 1=205∨at8 b 1=206 then
  (if at8 b 0 % 32≠1 then ((XX,0),4)
  else if at8 b 1=205 then Vh b 205 ((long b:Int)-2) 1 16 else Vh b 206 ((long b:Int)-2) 0 0)
 else ((XX,0),4)
theorem uN {b:List UInt8} {m p:Nat} (h1:p+24≤m) (h2:4+m≤b.length):dt ((b.drop 4).take m) (p:Int)=Oi b (p+4):=by
 have g:∀ d q:Nat,d+q≤24→1≤q→q≤8→get ((b.drop 4).take m) ((p:Int)+(d:Int)) (q:Int)=get b ((p+4+d:Nat):Int) (q:Int):=fun d q hd hq hq8=>by
  have h:=QC (b:=b) (m:=m) (p:=p+d) (q:=q) Zo h2 hq hq8
  rw [show ((p:Int)+(d:Int))=((p+d:Nat):Int) by omega,h,show (((p+d:Nat):Int)+4)=((p+4+d:Nat):Int) by omega]
 have e0:get ((b.drop 4).take m) (p:Int) 4=get b ((p+4:Nat):Int) 4:=by
  have h:=QC (b:=b) (m:=m) (p:=p) (q:=4) Zo h2 Zo Zo
  have h:get ((b.drop 4).take m) (p:Int) 4=get b ((p:Int)+4) 4:=h
  rw [h,show ((p:Int)+4)=((p+4:Nat):Int) by omega]
 have e4:get ((b.drop 4).take m) ((p:Int)+4) 1=get b ((p+4+4:Nat):Int) 1:=g 4 1 Zo Zo Zo
 have e5:get ((b.drop 4).take m) ((p:Int)+5) 3=get b ((p+4+5:Nat):Int) 3:=g 5 3 Zo Zo Zo
 have e8:get ((b.drop 4).take m) ((p:Int)+8) 4=get b ((p+4+8:Nat):Int) 4:=g 8 4 Zo Zo Zo
 have e12:get ((b.drop 4).take m) ((p:Int)+12) 4=get b ((p+4+12:Nat):Int) 4:=g 12 4 Zo Zo Zo
 have e16:get ((b.drop 4).take m) ((p:Int)+16) 4=get b ((p+4+16:Nat):Int) 4:=g 16 4 Zo Zo Zo
 have e20:get ((b.drop 4).take m) ((p:Int)+20) 4=get b ((p+4+20:Nat):Int) 4:=g 20 4 Zo Zo Zo
 unfold dt Oi
 rw [e0,e4,e5,e8,e12,e16,e20]
theorem xV {b:List UInt8} {m:Nat} (hm:m=at8 b 0 % 32) (k0:at8 b 1=200∨at8 b 1=201) (hl:long b=Ws (at8 b 1) m) (hb:4+4*long b≤b.length):report b=Xu (at8 b 1) m ((b.drop 4).take (4*long b)):=by
 subst hm
 rcases k0 with k|k
 ·have hw:long b=6+6*(at8 b 0 % 32):=by rw [hl,k];rfl
  have g:=fun (p q:Nat) (hp:p+q≤24) (h1:1≤q) (h8:q≤8)=>QC (b:=b) (m:=4*long b) (p:=p) (q:=q) Zo hb h1 h8
  have g0:get ((b.drop 4).take (4*long b)) 0 4=get b 4 4:=g 0 4 Zo Zo Zo
  have g4:get ((b.drop 4).take (4*long b)) 4 8=get b 8 8:=g 4 8 Zo Zo Zo
  have g12:get ((b.drop 4).take (4*long b)) 12 4=get b 16 4:=g 12 4 Zo Zo Zo
  have g16:get ((b.drop 4).take (4*long b)) 16 4=get b 20 4:=g 16 4 Zo Zo Zo
  have g20:get ((b.drop 4).take (4*long b)) 20 4=get b 24 4:=g 20 4 Zo Zo Zo
  have W9:Vl ((b.drop 4).take (4*long b)) 24 (at8 b 0 % 32)=(List.range (at8 b 0 % 32)).map fun (i:Nat)=>Oi b (28+24*i):=by
   unfold Vl
   refine List.map_congr_left fun i hi=>?_
   rw [List.mem_range] at hi
   rw [uN Zo hb]
   congr 1
   omega
  unfold report Xu
  rw [k]
  simp [g0,g4,g12,g16,g20,W9]
 ·have hw:long b=1+6*(at8 b 0 % 32):=by rw [hl,k];rfl
  have g0:get ((b.drop 4).take (4*long b)) 0 4=get b 4 4:=QC (b:=b) (m:=4*long b) (p:=0) (q:=4) Zo hb Zo Zo
  have W9:Vl ((b.drop 4).take (4*long b)) 4 (at8 b 0 % 32)=(List.range (at8 b 0 % 32)).map fun (i:Nat)=>Oi b (8+24*i):=by
   unfold Vl
   refine List.map_congr_left fun i hi=>?_
   rw [List.mem_range] at hi
   rw [uN Zo hb]
   congr 1
   omega
  unfold report Xu
  rw [k]
  simp [g0,W9]
theorem xU {b:List UInt8} (h1:4≤b.length) (h2:at8 b 0 / 32=4) (k0:at8 b 1=200∨at8 b 1=201):X4 b=Vh b (at8 b 1) (at8 b 0 % 32:Nat) 0 15:=by
 have hg:=uS h1
 have hr:UZ (at8 b 1) (at8 b 0 % 32)=4+4*Ws (at8 b 1) (at8 b 0 % 32):=by
  unfold UZ Ws
  rcases k0 with k|k <;> rw [k] <;> simp <;> omega
 have e1:right b=if 15<at8 b 0 % 32∨(get b 2 2+1)*4≠UZ (at8 b 1) (at8 b 0 % 32) then (0,1) else if b.length<UZ (at8 b 1) (at8 b 0 % 32) then (0,2) else (UZ (at8 b 1) (at8 b 0 % 32),0):=by
  unfold right
  rw [Z4 Zo,Z4 Zo,Z4 Zo]
 unfold X4 Vh
 rw [e1,hg,hr,Wv]
 by_cases N_:15<at8 b 0 % 32∨(long b+1)*4≠4+4*Ws (at8 b 1) (at8 b 0 % 32)
 ·rw [ZQ N_,ZQ (by dsimp only;decide),ZQ Zo]
 ·rw [Z4 N_,Z4 (show ¬(((at8 b 0 % 32:Nat):Int)<0∨(15:Int)<((at8 b 0 % 32:Nat):Int)∨(long b:Int)≠(Ws (at8 b 1) (at8 b 0 % 32):Nat)) by omega)]
  have hl:long b=Ws (at8 b 1) (at8 b 0 % 32):=by omega
  by_cases hs:b.length<4+4*Ws (at8 b 1) (at8 b 0 % 32)
  ·rw [ZQ hs,ZQ (by dsimp only;decide),ZQ (by rw [hl];exact hs)]
  ·rw [Z4 hs,Z4 (by dsimp only;decide),Z4 (by rw [hl];exact hs),xV rfl k0 hl (by rw [hl];omega),←hl]
theorem Mu {b:List UInt8} {n p:Nat} (hn:n≤b.length) (hp:p≤n):XY (b.take n) p=(List.range ((n-p) / 4)).map fun (i:Nat)=>get b ((p+4*i:Nat):Int) 4:=by
 unfold XY
 rw [Tg,Nat.min_eq_left hn]
 refine List.map_congr_left fun i hi=>?_
 rw [List.mem_range] at hi
 exact Ct (p:=p+4*i) (q:=4) Zo hn Zo Zo
theorem Kw {b:List UInt8} (hb:4+4*long b≤b.length):parts (b.take (4+4*long b)) 203=Xu 203 (long b) ((b.drop 4).take (4*long b))∧(2≤long b→parts (b.take (4+4*long b)) 205=Xu 205 (long b-2) ((b.drop 4).take (4*long b)))∧(long b=2→parts (b.take (4+4*long b)) 206=Xu 206 0 ((b.drop 4).take (4*long b))):=by
 refine ⟨?_,fun h2=>?_,fun h2=>?_⟩
 ·have e:(XY (b.take (4+4*long b)) 4).map (fun (n:Nat)=>(n:Int))=Uf ((b.drop 4).take (4*long b)) (long b):=by
   rw [Mu hb Zo,List.map_map,show (4+4*long b-4) / 4=long b by omega]
   unfold Uf
   refine List.map_congr_left fun i hi=>?_
   rw [List.mem_range] at hi
   have h:get ((b.drop 4).take (4*long b)) ((4*i:Nat):Int) 4=get b (((4*i:Nat):Int)+4) 4:=QC (b:=b) (m:=4*long b) (p:=4*i) (q:=4) Zo hb Zo Zo
   show ((get b ((4+4*i:Nat):Int) 4:Nat):Int)=_
   rw [show ((4+4*i:Nat):Int)=((4*i:Nat):Int)+4 by omega,←h]
  unfold parts
  rw [ZQ rfl,e]
  rfl
 ·have g0:get ((b.drop 4).take (4*long b)) 0 4=get (b.take (4+4*long b)) 4 4:=by
   exact gy
  have g4:get ((b.drop 4).take (4*long b)) 4 4=get (b.take (4+4*long b)) 8 4:=by
   exact gz
  have e:(XY (b.take (4+4*long b)) 12).map (fun (n:Nat)=>(((n / 65536:Nat):Int),((n % 65536:Nat):Int)))=Tn ((b.drop 4).take (4*long b)) (long b-2):=by
   rw [Mu hb Zo,List.map_map,show (4+4*long b-12) / 4=long b-2 by omega]
   unfold Tn
   refine List.map_congr_left fun i hi=>?_
   rw [List.mem_range] at hi
   have h4:=QC (b:=b) (m:=4*long b) (p:=8+4*i) (q:=4) Zo hb Zo Zo
   have hs:=sN (c:=(b.drop 4).take (4*long b)) (p:=8+4*i) (by rw [Tg,Rx];omega)
   have Po:=Nb ((b.drop 4).take (4*long b)) (((8+4*i:Nat):Int)+2)
   show (((get b ((12+4*i:Nat):Int) 4 / 65536:Nat):Int),((get b ((12+4*i:Nat):Int) 4 % 65536:Nat):Int))=_
   have e12:((12+4*i:Nat):Int)=((8+4*i:Nat):Int)+4:=by omega
   have h4':get ((b.drop 4).take (4*long b)) ((8+4*i:Nat):Int) 4=get b (((8+4*i:Nat):Int)+4) 4:=h4
   rw [e12,←h4',hs]
   generalize get ((b.drop 4).take (4*long b)) ((8+4*i:Nat):Int) 2=u
   generalize get ((b.drop 4).take (4*long b)) (((8+4*i:Nat):Int)+2) 2=v at *
   rw [show (u*65536+v) / 65536=u by omega,show (u*65536+v) % 65536=v by omega]
  unfold parts Xu
  rw [Z4 Zd,e]
  simp only [g0,g4]
  rfl
 ·have g0:get ((b.drop 4).take (4*long b)) 0 4=get (b.take (4+4*long b)) 4 4:=by
   exact gy
  have g4:get ((b.drop 4).take (4*long b)) 4 4=get (b.take (4+4*long b)) 8 4:=by
   exact gz
  have e:XY (b.take (4+4*long b)) 12=[]:=by
   rw [Mu hb Zo,show (4+4*long b-12) / 4=0 by omega]
   rfl
  unfold parts Xu
  rw [Z4 Zd,e]
  simp only [g0,g4]
  rfl
theorem Az (b:List UInt8):Y7 b=LG b:=by
 unfold LG
 by_cases h1:b.length<4
 ·rw [ZQ h1];unfold Y7;rw [ZQ h1]
 rw [Z4 h1]
 by_cases h2:at8 b 0 / 32≠4
 ·rw [ZQ h2];unfold Y7;rw [Z4 h1,ZQ h2]
 rw [Z4 h2]
 have hg:=uS (b:=b) Zo
 have e0:Y7 b=if (Xx b).2=false then ((XX,0),4) else if (Xx b).1=200∨(Xx b).1=201 then X4 b else
   if (XN b (Xx b).1).2=false then ((XX,0),1) else if b.length<(XN b (Xx b).1).1 then ((XX,0),2) else ((parts (b.take (XN b (Xx b).1).1) (Xx b).1,(XN b (Xx b).1).1),0):=by
  unfold Y7
  rw [Z4 h1,Z4 h2]
 by_cases k0:at8 b 1=200∨at8 b 1=201
 ·have hi:Xx b=(at8 b 1,true):=by unfold Xx;rw [ZQ Zo]
  rw [ZQ k0,e0,hi,Z4 Zi,ZQ k0]
  exact xU Zo Zo k0
 rw [Z4 k0]
 by_cases k3:at8 b 1=203
 ·have hi:Xx b=(203,true):=by unfold Xx;rw [ZQ Zo,k3]
  have hlen:XN b 203=((long b+1)*4,decide (1≤at8 b 0 % 32) && decide (at8 b 0 % 32≤15) && decide ((long b+1)*4=4+4*(at8 b 0 % 32))):=by unfold XN;rw [hg];rfl
  rw [ZQ k3,e0,hi,Z4 Zi,Z4 Zd,hlen]
  have yX:Ws 203 (at8 b 0 % 32)=at8 b 0 % 32:=rfl
  unfold Vh
  rw [Wv,yX]
  by_cases N_:at8 b 0 % 32<1∨15<at8 b 0 % 32∨long b≠at8 b 0 % 32
  ·rw [ZQ (by simp only [Bool.and_eq_false_iff,decide_eq_false_iff_not];omega),ZQ (show ((at8 b 0 % 32:Nat):Int)<1∨(15:Int)<((at8 b 0 % 32:Nat):Int)∨(long b:Int)≠((at8 b 0 % 32:Nat):Int) by omega)]
  ·rw [Z4 (by simp only [Bool.and_eq_false_iff,decide_eq_false_iff_not];omega),Z4 (show ¬(((at8 b 0 % 32:Nat):Int)<1∨(15:Int)<((at8 b 0 % 32:Nat):Int)∨(long b:Int)≠((at8 b 0 % 32:Nat):Int)) by omega)]
   dsimp only
   rw [show (long b+1)*4=4+4*long b by omega]
   by_cases hs:b.length<4+4*long b
   ·rw [ZQ hs,ZQ hs]
   ·rw [Z4 hs,Z4 hs,(Kw Zo).1,show at8 b 0 % 32=long b by omega]
 rw [Z4 k3]
 by_cases k5:at8 b 1=205∨at8 b 1=206
 ·rw [ZQ k5]
  have hi:Xx b=(at8 b 1,decide (at8 b 0 % 32=1)):=by unfold Xx;rw [Z4 Zo,ZQ k5]
  by_cases hm:at8 b 0 % 32≠1
  ·rw [ZQ hm,e0,hi,ZQ (by simpa using hm)]
  rw [Z4 hm]
  have hm':at8 b 0 % 32=1:=by omega
  rw [e0,hi,hm',Z4 Zi,Z4 k0]
  rcases k5 with k|k
  ·have hlen:XN b 205=((long b+1)*4,decide (16≤(long b+1)*4) && decide ((long b+1)*4≤76)):=by unfold XN;rw [hg];rfl
   rw [k,ZQ rfl,hlen]
   unfold Vh
   by_cases N_:long b<3∨18<long b
   ·rw [ZQ (by simp only [Bool.and_eq_false_iff,decide_eq_false_iff_not];omega),ZQ (by rcases N_ with h|h;exact Ww Zo;exact Wi (Ww Zo))]
   ·have hn:((long b:Int)-2).toNat=long b-2:=by omega
    have hw:Ws 205 (long b-2)=long b:=by show 2+(long b-2)=long b;omega
    rw [Z4 (by simp only [Bool.and_eq_false_iff,decide_eq_false_iff_not];omega),hn,hw,Z4 (show ¬((long b:Int)-2<1∨(16:Int)<(long b:Int)-2∨(long b:Int)≠((long b:Nat):Int)) by omega)]
    dsimp only
    rw [show (long b+1)*4=4+4*long b by omega]
    by_cases hs:b.length<4+4*long b
    ·rw [ZQ hs,ZQ hs]
    ·rw [Z4 hs,Z4 hs,(Kw Zo).2.1 Zo]
  ·have hlen:XN b 206=((long b+1)*4,decide ((long b+1)*4=12)):=by unfold XN;rw [hg];rfl
   rw [k,Z4 (show ¬(206:Nat)=205 by decide)]
   dsimp only
   rw [hlen]
   unfold Vh
   by_cases N_:long b≠2
   ·rw [ZQ (by simp only [decide_eq_false_iff_not];omega),ZQ (by exact Wi (Wi (show (long b:Int)≠((2:Nat):Int) by omega)))]
   ·have hn:((long b:Int)-2).toNat=0:=by omega
    rw [Z4 (by simp only [decide_eq_false_iff_not];omega),hn,Z4 (show ¬((long b:Int)-2<0∨(0:Int)<(long b:Int)-2∨(long b:Int)≠((Ws 206 0:Nat):Int)) by show ¬((long b:Int)-2<0∨(0:Int)<(long b:Int)-2∨(long b:Int)≠((2:Nat):Int));omega)]
    dsimp only
    rw [show (long b+1)*4=4+4*long b by omega]
    by_cases hs:b.length<4+4*long b
    ·rw [ZQ hs,ZQ hs]
    ·rw [Z4 hs,Z4 hs,(Kw Zo).2.2 Zo]
 ·rw [Z4 k5]
  have hi:Xx b=(0,false):=by unfold Xx;rw [Z4 Zo,Z4 k5]
  rw [e0,hi,ZQ rfl]
end Go.Proofs.By
namespace Go.Proofs.By
open Go.RowKit Go.Proofs.Heap
open Go.Proofs.Rm (below_drewN)
theorem PH (v:Value) (k n:Nat) (c:List UInt8) (w:World) (hv:X9 w v c) (hn:n≤1000) (hk:k=200∨k=201∨k=203∨k=205∨(k=206∧n=0)) :
  Calls Tryz.prog 117 (Q7 (k:Int) (n:Int) v) w fun e w'=>(∃ a,e = .returned a∧Td w' a (Xu k n c))∧Below w w w':=by
 rcases hk with rfl|rfl|rfl|rfl|⟨rfl,h0⟩
 ·exact xX v n c w hv hn
 ·exact xW v n c w hv hn
 ·exact ud v n c w hv hn
 ·exact A3 v n c w hv hn
 ·exact ue v n c w hv hn h0
set_option maxHeartbeats 40000000 in
theorem Du (v:Value) (b:List UInt8) (w:World) (hv:X9 w v b) (hb:b.length≤512) :
  Calls Tryz.prog 93 #[v] w fun e w'=>(∃ a,e = .returned (.tuple #[a,.int .i64 ((Y7 b).1.2:Nat),.int .i64 (Y7 b).2])∧Td w' a (Y7 b).1.1)∧Below w w w':=by
 have HX:Hid (Y7 b=LG b):=Az b
 have HV:Hid (∀ w',Below w w w'→X9 w' v b):=fun w' h=>hv.below h
 have UL:Hid (∀ w2 er,w2.heap[w.heap.size]?=some (.cells YY 173 (0,0))→Below w w w2→Y7 b=((XX,0),er)→(∃ a,Ending.returned (.tuple (Qq YY 0 er)) = .returned (.tuple #[a,.int .i64 ((Y7 b).1.2:Nat),.int .i64 (Y7 b).2])∧Td (w2.setRow w.heap.size YY) a (Y7 b).1.1)∧Below w w (w2.setRow w.heap.size YY)):=fun w2 er h1 h2 h3=>by
  rw [h3]
  exact ⟨⟨_,rfl,NF ((EA w2).setRow h1 _)⟩,Z3 h2 (Zw _) _⟩
 have H0:Hid (GI w (((w.alloc (.cells YY 173)).alloc (.cells YY 173)).setRow (w.heap.size+1) YY) Yz1):=GI.start w 0
 have hz:((w.alloc (.cells YY 173)).alloc (.cells YY 173)).heap[w.heap.size+1]?=some (.cells YY 173 (0,0)):=by
  exact sk
 obtain ⟨va,c,rfl,Sg,wR⟩:∃ a c,v = .slice a b.length c∧b.length≤c∧c≤maxLen:=by
  obtain ⟨a,c,h1,h2,h3,_⟩:=id hv
  exact ⟨a,c,h1,h2,h3⟩
 clear hv
 generalize Y7 b=X at *
 go_enter Tryz.func93,Tryz.ntmps93
 go_upto_region 2 with (with_reducible refine ZU 173 (.tmp 5) (.tmp 12) rfl ?_;refine ZW rfl 173 (.tmp 5) (.tmp 12) rfl rfl (w.heap.size+1) YY rfl rfl 173 YY hz ZB ZB ZB ?_)
 clear hz
 generalize ((w.alloc (.cells YY 173)).alloc (.cells YY 173)).setRow (w.heap.size+1) YY=w1 at *
 have H1:=H0
 clear H0
 by_cases h1:b.length<4
 ·have Vs:Hid (X=((XX,0),2)):=by show _=_;rw [HX.o];unfold LG;rw [ZQ h1]
  have l1:decide ((b.length:Int)<4)=true:=We Zo
  have Ub:=H1.o.z
  have UN:=H1.o.Za
  go_wp2_with (first|(with_reducible refine Y8 173 (.tmp 5) rfl ?_;refine Y9 rfl 173 (.tmp 5) rfl (w.heap.size+1) rfl 173 YY (0,0) _ UN Tryz.underlying173 rfl ZB ?_)|(with_reducible refine ZU 173 (.tmp 2) (.tmp 16) rfl ?_;refine ZW rfl 173 (.tmp 2) (.tmp 16) rfl rfl w.heap.size YY rfl rfl 173 YY Ub ZB ZB ZB ?_))
  refine VJ (v:= .tuple (Qq YY 0 2)) ?_ rfl ?_
  ·exact cG
  exact UL.o _ 2 Ub H1.o.Zj Vs.o
 have l1:decide ((b.length:Int)<4)=false:=WB Zo
 obtain ⟨g,off,cap,e1,-,-,hc⟩:=R7 (HV.o w1 H1.o.Zj) Zo
 cases e1
 have d0:=hc 0 Zo
 have d1:=hc 1 Zo
 have d2:=hc 2 Zo
 have d3:=hc 3 Zo
 rw [gX] at d0
 have i0:(0:Int)<(b.length:Int):=by omega
 have i1:(1:Int)<(b.length:Int):=by omega
 have i2:(2:Int)<(b.length:Int):=by omega
 have i3:(3:Int)<(b.length:Int):=by omega
 have M5:Hid (X=if at8 b 0 / 32≠4 then ((XX,0),1)
  else if at8 b 1=200∨at8 b 1=201 then Vh b (at8 b 1) (at8 b 0 % 32:Nat) 0 15
  else if at8 b 1=203 then Vh b 203 (at8 b 0 % 32:Nat) 1 15
  else if at8 b 1=205∨at8 b 1=206 then
   (if at8 b 0 % 32≠1 then ((XX,0),4)
   else if at8 b 1=205 then Vh b 205 ((long b:Int)-2) 1 16 else Vh b 206 ((long b:Int)-2) 0 0)
  else ((XX,0),4)):=by show _=_;rw [HX.o];unfold LG;rw [Z4 h1]
 have fR:Hid (long b=at8 b 2*256+at8 b 3):=rfl
 have r0:=Xo b 0
 have r1:=Xo b 1
 have r2:=Xo b 2
 have r3:=Xo b 3
 clear hc HX h1
 by_cases h2:at8 b 0 / 32≠4
 ·have Vs:Hid (X=((XX,0),1)):=by show _=_;rw [M5.o,ZQ h2]
  have q:(((at8 b 0:Nat):Int) / 32 != 4)=true:=by rw [R6];omega
  have Ub:=H1.o.z
  have UN:=H1.o.Za
  go_wp2_with (first|(with_reducible refine Y8 173 (.tmp 5) rfl ?_;refine Y9 rfl 173 (.tmp 5) rfl (w.heap.size+1) rfl 173 YY (0,0) _ UN Tryz.underlying173 rfl ZB ?_)|(with_reducible refine ZU 173 (.tmp 2) (.tmp 22) rfl ?_;refine ZW rfl 173 (.tmp 2) (.tmp 22) rfl rfl w.heap.size YY rfl rfl 173 YY Ub ZB ZB ZB ?_))
  refine VJ (v:= .tuple (Qq YY 0 1)) ?_ rfl ?_
  ·exact cG
  exact UL.o _ 1 Ub H1.o.Zj Vs.o
 have q2:(((at8 b 0:Nat):Int) / 32 != 4)=false:=by rw [bne_eq_false_iff_eq];omega
 rw [Z4 h2] at M5
 obtain ⟨x0,QU⟩:∃ x,x=at8 b 0:=⟨_,rfl⟩
 obtain ⟨x1,S9⟩:∃ x,x=at8 b 1:=⟨_,rfl⟩
 obtain ⟨x2,Ol⟩:∃ x,x=at8 b 2:=⟨_,rfl⟩
 obtain ⟨x3,Pv⟩:∃ x,x=at8 b 3:=⟨_,rfl⟩
 obtain ⟨Lg,hLg⟩:∃ x,x=long b:=⟨_,rfl⟩
 obtain ⟨m,hm⟩:∃ m,m=x0 % 32:=⟨_,rfl⟩
 rw [←QU,←S9,←hLg,←hm] at M5
 rw [←QU] at d0 q2 r0
 rw [←S9] at d1 r1
 rw [←Ol] at d2 r2
 rw [←Pv] at d3 r3
 have ax:Lg=x2*256+x3:=by rw [hLg,Ol,Pv];exact fR.o
 have qm:(x0:Int) % 32=(m:Int):=by omega
 have qa:IntKind.i64.wrap ((x2:Int)*256)=(x2:Int)*256:=Ty _ Zo
 have qb:IntKind.i64.wrap ((x2:Int)*256+(x3:Int))=(Lg:Int):=by rw [Ty _ Zo];omega
 have qs:IntKind.i64.wrap ((Lg:Int)-2)=(Lg:Int)-2:=Ty _ Zo
 have q4:IntKind.i64.wrap (4*(Lg:Int))=4*(Lg:Int):=Ty _ Zo
 obtain ⟨Z,hZ⟩:∃ Z:Nat,Z=4+4*Lg:=⟨_,rfl⟩
 have q5:IntKind.i64.wrap (4+4*(Lg:Int))=(Z:Int):=by rw [Ty _ Zo];omega
 have hm32:m<32:=by omega
 have hLb:Lg≤70000:=by omega
 have rS:Hid (∀ k n l u,Vh b k n l u=if n<l∨u<n∨(Lg:Int)≠Ws k n.toNat then ((XX,0),1) else if b.length<Z then ((XX,0),2) else ((Xu k n.toNat ((b.drop 4).take (4*Lg)),Z),0)):=fun k n l u=>by unfold Vh;rw [←hLg,hZ]
 have HZ:=Zh hZ
 clear ax
 have aV:4≤Z:=by omega
 clear hZ
 generalize Vh b=RP at *
 have HK:x1=200∨x1=201∨x1=203∨x1=205∨x1=206∨(¬x1=200∧¬x1=201∧¬x1=203∧¬x1=205∧¬x1=206):=by omega
 clear fR QU S9 Ol Pv hLg hm h2
 go_upto_region 8 with fail
 go_quiet (fail)
 have H1:=Zh (H1.o.below (below_drewN (YH _ _) nq))
 generalize w1.drewN nq=w2 at *
 clear d0 d1 d2 d3
 have yH:=Zh (fun (k n:Nat) (hn:n≤100000)=>x_ k n w2 hn)
 rcases HK with Mv|fh|IX|xy|tK|⟨Mv,fh,IX,xy,tK⟩
 ·have KU:Hid (X=RP x1 (m:Int) 0 15):=by show _=_;rw [M5.o,ZQ Zo]
  rw [rS.o,Wv,Mv] at KU
  subst Mv
  have CW:=Zh (yH.o 200 m Zo)
  have yX:Ws 200 m≤1000:=by unfold Ws;simp;omega
  have CW:=CW
  generalize Ws 200 m=R at *
  clear M5 rS yH
  have dl:decide ((m:Int)<0)=false:=WB Zo
  by_cases ve:15<m
  ·exact cO
  have dh:decide (15<(m:Int))=false:=WB Zo
  by_cases hw:Lg=R
  rotate_left
  ·exact cN
  have l_:Hid (X=if b.length<Z then ((XX,0),2) else ((Xu 200 m ((b.drop 4).take (4*Lg)),Z),0)):=by show _=_;rw [KU.o,Z4 Zo]
  subst hw
  by_cases T5:b.length<Z
  ·exact Yx3
  have dz:decide ((b.length:Int)<(Z:Int))=false:=WB Zo
  have Vs:Hid (X=((Xu 200 m ((b.drop 4).take (4*Lg)),Z),0)):=by show _=_;rw [l_.o,Z4 T5]
  obtain ⟨a',Uz,IW⟩:=Wk (P:=Tryz.prog) VL (some ⟨g,off,none⟩) b.length c 4 Z aV Zo Sg
  have I5:Hid (∀ w',Below w w w'→X9 w' (.slice a' (Z-4) (c-4)) ((b.drop 4).take (4*Lg))):=fun w' h=>by
   exact nV
  have lu:∀ w,(Instr.slice 30 (.slice (some ⟨g,off,none⟩) b.length c) (some (.int .i64 4)) (some (.int .i64 (Z:Int))) none).run Tryz.prog w = .ok (.slice a' (Z-4) (c-4)) w:=Uz
  have CI:=Zh (PH _ 200 m _ w2 (I5.o w2 H1.o.Zj) Zo Zo)
  generalize Xu 200 m ((b.drop 4).take (4*Lg))=i at *
  exact Yx2
 ·have KU:Hid (X=RP x1 (m:Int) 0 15):=by show _=_;rw [M5.o,ZQ Zo]
  rw [rS.o,Wv,fh] at KU
  subst fh
  have CW:=Zh (yH.o 201 m Zo)
  have yX:Ws 201 m≤1000:=by unfold Ws;simp;omega
  have CW:=CW
  generalize Ws 201 m=R at *
  clear M5 rS yH
  have dl:decide ((m:Int)<0)=false:=WB Zo
  by_cases ve:15<m
  ·exact cO
  have dh:decide (15<(m:Int))=false:=WB Zo
  by_cases hw:Lg=R
  rotate_left
  ·exact cN
  have l_:Hid (X=if b.length<Z then ((XX,0),2) else ((Xu 201 m ((b.drop 4).take (4*Lg)),Z),0)):=by show _=_;rw [KU.o,Z4 Zo]
  subst hw
  by_cases T5:b.length<Z
  ·exact Yx3
  have dz:decide ((b.length:Int)<(Z:Int))=false:=WB Zo
  have Vs:Hid (X=((Xu 201 m ((b.drop 4).take (4*Lg)),Z),0)):=by show _=_;rw [l_.o,Z4 T5]
  obtain ⟨a',Uz,IW⟩:=Wk (P:=Tryz.prog) VL (some ⟨g,off,none⟩) b.length c 4 Z aV Zo Sg
  have I5:Hid (∀ w',Below w w w'→X9 w' (.slice a' (Z-4) (c-4)) ((b.drop 4).take (4*Lg))):=fun w' h=>by
   exact nV
  have lu:∀ w,(Instr.slice 30 (.slice (some ⟨g,off,none⟩) b.length c) (some (.int .i64 4)) (some (.int .i64 (Z:Int))) none).run Tryz.prog w = .ok (.slice a' (Z-4) (c-4)) w:=Uz
  have CI:=Zh (PH _ 201 m _ w2 (I5.o w2 H1.o.Zj) Zo Zo)
  generalize Xu 201 m ((b.drop 4).take (4*Lg))=i at *
  exact Yx2
 ·have KU:Hid (X=RP 203 (m:Int) 1 15):=by show _=_;rw [M5.o,Z4 Zo,ZQ IX]
  rw [rS.o,Wv] at KU
  subst IX
  have CW:=Zh (yH.o 203 m Zo)
  have yX:Ws 203 m≤1000:=by unfold Ws;simp;omega
  have CW:=CW
  generalize Ws 203 m=R at *
  clear M5 rS yH
  by_cases sZ:m<1
  ·have Vs:Hid (X=((XX,0),1)):=by show _=_;rw [KU.o,ZQ Zo]
   have dl:decide ((m:Int)<1)=true:=We Zo
   exact cC
  have dl:decide ((m:Int)<1)=false:=WB Zo
  by_cases ve:15<m
  ·exact cO
  have dh:decide (15<(m:Int))=false:=WB Zo
  by_cases hw:Lg=R
  rotate_left
  ·exact cN
  have l_:Hid (X=if b.length<Z then ((XX,0),2) else ((Xu 203 m ((b.drop 4).take (4*Lg)),Z),0)):=by show _=_;rw [KU.o,Z4 Zo]
  subst hw
  by_cases T5:b.length<Z
  ·exact Yx3
  have dz:decide ((b.length:Int)<(Z:Int))=false:=WB Zo
  have Vs:Hid (X=((Xu 203 m ((b.drop 4).take (4*Lg)),Z),0)):=by show _=_;rw [l_.o,Z4 T5]
  obtain ⟨a',Uz,IW⟩:=Wk (P:=Tryz.prog) VL (some ⟨g,off,none⟩) b.length c 4 Z aV Zo Sg
  have I5:Hid (∀ w',Below w w w'→X9 w' (.slice a' (Z-4) (c-4)) ((b.drop 4).take (4*Lg))):=fun w' h=>by
   exact nV
  have lu:∀ w,(Instr.slice 30 (.slice (some ⟨g,off,none⟩) b.length c) (some (.int .i64 4)) (some (.int .i64 (Z:Int))) none).run Tryz.prog w = .ok (.slice a' (Z-4) (c-4)) w:=Uz
  have CI:=Zh (PH _ 203 m _ w2 (I5.o w2 H1.o.Zj) Zo Zo)
  generalize Xu 203 m ((b.drop 4).take (4*Lg))=i at *
  exact Yx2
 ·have lZ:Hid (X=if m≠1 then ((XX,0),4) else RP 205 ((Lg:Int)-2) 1 16):=by show _=_;rw [M5.o,Z4 Zo,Z4 Zo,ZQ Zo];rw [ZQ xy]
  subst xy
  clear M5
  by_cases Da:m=1
  rotate_left
  ·exact Yx23
  have KU:Hid (X=RP 205 ((Lg:Int)-2) 1 16):=by show _=_;rw [lZ.o,Z4 Zo]
  rw [rS.o] at KU
  subst Da
  by_cases sZ:(Lg:Int)-2<1
  ·have Vs:Hid (X=((XX,0),1)):=by show _=_;rw [KU.o,ZQ (Ww sZ)]
   have dl:decide ((Lg:Int)-2<1)=true:=We sZ
   have CW:=Zh (yH.o 0 0 Zo)
   exact cC
  have dl:decide ((Lg:Int)-2<1)=false:=WB sZ
  by_cases ve:16<(Lg:Int)-2
  ·have Vs:Hid (X=((XX,0),1)):=by show _=_;rw [KU.o,ZQ (Wi (Ww ve))]
   have dh:decide (16<(Lg:Int)-2)=true:=We ve
   have CW:=Zh (yH.o 0 0 Zo)
   exact cC
  have dh:decide (16<(Lg:Int)-2)=false:=WB ve
  obtain ⟨N,hN⟩:∃ N:Nat,(Lg:Int)-2=(N:Int):=⟨Lg-2,Zo⟩
  rw [hN,Wv] at KU
  have CW:=Zh (yH.o 205 N Zo)
  have yX:(Ws 205 N:Int)=(Lg:Int):=by show ((2+N:Nat):Int)=_;omega
  rw [yX] at CW KU
  rw [hN] at dl dh
  replace qs:=qs.trans hN
  have HNB:Hid ((N:Int)=(Lg:Int)-2∧¬(16:Int)<(Lg:Int)-2):=⟨hN.symm,ve⟩
  have l_:Hid (X=if b.length<Z then ((XX,0),2) else ((Xu 205 N ((b.drop 4).take (4*Lg)),Z),0)):=by show _=_;rw [KU.o,Z4 Zo]
  clear KU lZ rS yH yX hN sZ ve
  by_cases T5:b.length<Z
  ·exact Yx3
  have dz:decide ((b.length:Int)<(Z:Int))=false:=WB Zo
  have Vs:Hid (X=((Xu 205 N ((b.drop 4).take (4*Lg)),Z),0)):=by show _=_;rw [l_.o,Z4 T5]
  obtain ⟨a',Uz,IW⟩:=Wk (P:=Tryz.prog) VL (some ⟨g,off,none⟩) b.length c 4 Z aV Zo Sg
  have I5:Hid (∀ w',Below w w w'→X9 w' (.slice a' (Z-4) (c-4)) ((b.drop 4).take (4*Lg))):=fun w' h=>by
   exact nV
  have lu:∀ w,(Instr.slice 30 (.slice (some ⟨g,off,none⟩) b.length c) (some (.int .i64 4)) (some (.int .i64 (Z:Int))) none).run Tryz.prog w = .ok (.slice a' (Z-4) (c-4)) w:=Uz
  have CI:=Zh (PH _ 205 N _ w2 (I5.o w2 H1.o.Zj) (by have:=HNB.o;omega) Zo)
  generalize Xu 205 N ((b.drop 4).take (4*Lg))=i at *
  exact Yx2
 ·have lZ:Hid (X=if m≠1 then ((XX,0),4) else RP 206 ((Lg:Int)-2) 0 0):=by show _=_;rw [M5.o,Z4 Zo,Z4 Zo,ZQ Zo];rw [Z4 (show ¬x1=205 by omega)]
  subst tK
  clear M5
  by_cases Da:m=1
  rotate_left
  ·exact Yx23
  have KU:Hid (X=RP 206 ((Lg:Int)-2) 0 0):=by show _=_;rw [lZ.o,Z4 Zo]
  rw [rS.o] at KU
  subst Da
  by_cases sZ:(Lg:Int)-2<0
  ·have Vs:Hid (X=((XX,0),1)):=by show _=_;rw [KU.o,ZQ (Ww sZ)]
   have dl:decide ((Lg:Int)-2<0)=true:=We sZ
   have CW:=Zh (yH.o 0 0 Zo)
   exact cC
  have dl:decide ((Lg:Int)-2<0)=false:=WB sZ
  by_cases ve:0<(Lg:Int)-2
  ·have Vs:Hid (X=((XX,0),1)):=by show _=_;rw [KU.o,ZQ (Wi (Ww ve))]
   have dh:decide (0<(Lg:Int)-2)=true:=We ve
   have CW:=Zh (yH.o 0 0 Zo)
   exact cC
  have dh:decide (0<(Lg:Int)-2)=false:=WB ve
  obtain ⟨N,hN⟩:∃ N:Nat,(Lg:Int)-2=(N:Int):=⟨Lg-2,Zo⟩
  rw [hN,Wv] at KU
  have CW:=Zh (yH.o 206 N Zo)
  have yX:(Ws 206 N:Int)=(Lg:Int):=by show ((2:Nat):Int)=_;omega
  rw [yX] at CW KU
  rw [hN] at dl dh
  replace qs:=qs.trans hN
  have HNB:Hid ((N:Int)=(Lg:Int)-2∧¬(0:Int)<(Lg:Int)-2):=⟨hN.symm,ve⟩
  have l_:Hid (X=if b.length<Z then ((XX,0),2) else ((Xu 206 N ((b.drop 4).take (4*Lg)),Z),0)):=by show _=_;rw [KU.o,Z4 Zo]
  clear KU lZ rS yH yX hN sZ ve
  have dh2:decide (0<N)=false:=WB (by have:=HNB.o;omega)
  by_cases T5:b.length<Z
  ·exact Yx3
  have dz:decide ((b.length:Int)<(Z:Int))=false:=WB Zo
  have Vs:Hid (X=((Xu 206 N ((b.drop 4).take (4*Lg)),Z),0)):=by show _=_;rw [l_.o,Z4 T5]
  obtain ⟨a',Uz,IW⟩:=Wk (P:=Tryz.prog) VL (some ⟨g,off,none⟩) b.length c 4 Z aV Zo Sg
  have I5:Hid (∀ w',Below w w w'→X9 w' (.slice a' (Z-4) (c-4)) ((b.drop 4).take (4*Lg))):=fun w' h=>by
   exact nV
  have lu:∀ w,(Instr.slice 30 (.slice (some ⟨g,off,none⟩) b.length c) (some (.int .i64 4)) (some (.int .i64 (Z:Int))) none).run Tryz.prog w = .ok (.slice a' (Z-4) (c-4)) w:=Uz
  have CI:=Zh (PH _ 206 N _ w2 (I5.o w2 H1.o.Zj) (by have:=HNB.o;omega) (by have:=HNB.o;omega))
  generalize Xu 206 N ((b.drop 4).take (4*Lg))=i at *
  exact Yx2
 ·have Vs:Hid (X=((XX,0),4)):=by show _=_;rw [M5.o,Z4 Zo,Z4 Zo,Z4 Zo]
  have e200:((x1:Int) == 200)=false:=by rw [WQ];omega
  have e201:((x1:Int) == 201)=false:=by rw [WQ];omega
  have e203:((x1:Int) == 203)=false:=by rw [WQ];omega
  have e205:((x1:Int) == 205)=false:=by rw [WQ];omega
  have e206:((x1:Int) == 206)=false:=by rw [WQ];omega
  have CW:=Zh (yH.o 0 0 Zo)
  have Ub:=H1.o.z
  have UN:=H1.o.Za
  go_wp2_with (first|(go_at_call 116;refine CW.o.mono ?_;rintro e w' ⟨rfl,rfl⟩)|(with_reducible refine Y8 173 (.tmp 5) rfl ?_;refine Y9 rfl 173 (.tmp 5) rfl (w.heap.size+1) rfl 173 YY (0,0) _ UN Tryz.underlying173 rfl ZB ?_)|(with_reducible refine ZU 173 (.tmp 2) (.tmp 43) rfl ?_;refine ZW rfl 173 (.tmp 2) (.tmp 43) rfl rfl w.heap.size YY rfl rfl 173 YY Ub ZB ZB ZB ?_))
  refine VJ (v:= .tuple (Qq YY 0 4)) ?_ rfl ?_
  ·exact cG
  exact UL.o _ 4 Ub H1.o.Zj Vs.o
open Go.Proofs.Rm (YL)
theorem FM (v:Value) (b:List UInt8) (w:World) (hv:X9 w v b) :
  Calls Tryz.prog 70 #[v] w fun e w'=>(∃ a,e = .returned (.tuple #[a,.int .i64 (Ym b).2])∧YI w' a (Ym b).1)∧Below w w w':=by
 have HX:Hid (Ym b=if 512<b.length then ([],5) else YE 8 b):=rfl
 have HV:Hid (∀ w',Below w w w'→X9 w' v b):=fun w' h=>hv.below h
 have hlen:=hv.len
 obtain ⟨va,c,rfl,Sg,-⟩:=id hv
 clear hv Sg
 generalize Ym b=X at *
 by_cases h1:512<b.length
 ·rw [ZQ h1] at HX
  clear HV
  go_enter Tryz.func70,Tryz.ntmps70
  go_wp2_with fail
  go_ret2
  exact ⟨⟨.slice none 0 0,by rw [HX.o];rfl,by rw [HX.o];exact YI.nil _⟩,YH _ _⟩
 rw [Z4 h1] at HX
 have l512:decide (512<(b.length:Int))=false:=WB Zo
 have bJ:Hid (YE 8 b=comb [] (YE (8-0) b)):=by
  show _=_
  unfold comb
  by_cases h:(YE 8 b).2≠0
  ·rw [ZQ h]
   exact JU h
  ·rw [Z4 h]
   have h:(YE 8 b).2=0:=by omega
   show YE 8 b=([]++(YE 8 b).1,0)
   rw [Jy,←h]
 go_enter Tryz.func70,Tryz.ntmps70
 go_wp2_with fail
 go_loopw [0,4,5] (fun s0 s4 s5 w'=>∃ (j:Nat) (r:List UInt8) (ra:Option Addr) (rc:Nat) (L:List R5),j≤8∧L.length=j∧r.length≤512∧s0 = .slice ra r.length rc∧p9 s4=j∧s5 = .bool (decide (j=0))∧Below w w w'∧w'.ownsRow w 173 10 s4 j (L.flatMap YX)∧(∀ x∈L,Uo w' x)∧Hid (∀ w'',Below w w w''→X9 w'' (.slice ra r.length rc) r)∧Hid ((j=0∨0<r.length)→YE 8 b=comb (L.map (·.i)) (YE (8-j) r))∧Hid (¬(j=0∨0<r.length)→YE 8 b=(L.map (·.i),0))) (fun s0 s4 s5 _=>9-p9 s4)
 case atStart=>exact ⟨0,b,va,c,[],Tw _,rfl,Zo,rfl,rfl,rfl,YH _ _,Ua _ _ _ _,fun _ h=>by (exact absurd h Zi),HV.o,fun _=>bJ.o,fun h=>absurd (Ww rfl) h⟩
 case round=>
  clear bJ HV
  obtain ⟨j,r,ra,rc,L,hj,hLj,hr,rfl,-,rfl,Wn,YJ,P4,HR,HG,HE⟩:=hrel
  obtain ⟨oa,oc,rfl,-,-⟩:=Row.Z6 YJ
  have SG:=Zh Wn
  have Yl:=Zh YJ
  have Ge:=Zh P4
  have T5:=Wn.size
  have HLJ:=Zh hLj
  clear Wn YJ P4 hLj
  by_cases o_:j=0∨0<r.length
  rotate_left
  ·have DZ:Hid (X=(L.map (·.i),0)):=by show _=_;rw [HX.o,HE.o o_]
   have dY:decide (j=0)=false:=WB Zo
   have hr0:r.length=0:=by omega
   have hrD:decide (0<(r.length:Int))=false:=WB Zo
   rw [dY]
   clear HG HE HX o_
   go_wp2_with fail
   go_ret2
   exact ⟨⟨_,by rw [DZ.o];rfl,by rw [DZ.o];exact ⟨L,rfl,by rw [HLJ.o];exact Row.Z6 Yl.o,Ge.o⟩⟩,SG.o⟩
  have aw:=HG.o o_
  have O5:=Zh aw
  clear HG aw HE
  by_cases h8:j=8
  ·subst h8
   have hrD:decide (0<(r.length:Int))=true:=We Zo
   have hrD2:decide (0<r.length)=true:=We Zo
   have DZ:Hid (X=([],3)):=by show _=_;rw [HX.o,O5.o];rfl
   have dY:decide (8=0)=false:=by decide
   rw [dY]
   clear HX O5 o_
   go_wp2_with fail
   go_ret2
   exact ⟨⟨.slice none 0 0,by rw [DZ.o];rfl,by rw [DZ.o];exact YI.nil _⟩,SG.o⟩
  have e8:((j:Int) == 8)=false:=by rw [WQ];omega
  obtain ⟨q,hq⟩:∃ q,8-j=q+1:=⟨7-j,Zo⟩
  rw [hq] at O5
  have CI:=Zh (Du _ r wr (HR.o _ SG.o) hr)
  have iP:r.length≤rc:=by
   have h:=HR.o _ SG.o
   obtain ⟨a1,c1,h1,h2,_⟩:=h
   injection h1 with _ _ h1
   omega
  have jo:=Zh (G3 (b:=r))
  have HE:=Zh (zS (L.map (·.i)) q (r:=r))
  have Gf:=Zh (Ea (L.map (·.i)) q (r:=r))
  have HM:=Zh (Eb (L.map (·.i)) q (r:=r))
  generalize Y7 r=Y at *
  obtain ⟨⟨i,n⟩,er⟩:=Y
  dsimp only at CI jo HE Gf HM
  have bh:decide (j=0)=true∨(decide (j=0)=false∧decide (0<(r.length:Int))=true∧decide (0<r.length)=true):=by
   by_cases h:j=0
   ·exact Ww (We h)
   ·exact Wi ⟨WB h,We Zo,We Zo⟩
  rcases bh with dY|⟨dY,hrD,hrD2⟩
  ·exact Yx4
  ·exact Yx4
end Go.Proofs.By
