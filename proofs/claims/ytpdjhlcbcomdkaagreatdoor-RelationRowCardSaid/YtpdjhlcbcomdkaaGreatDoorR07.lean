/- Part of a proof. -/
import Derived.Test.YtpdjhlcbcomdkaaGreatDoorR0R
set_option linter.unusedVariables false
set_option linter.unusedSimpArgs false
set_option maxRecDepth 100000
set_option maxHeartbeats 16000000
open Go Go.Q Go.Qr
namespace Go.Proofs.By
open Go.RowKit Go.Proofs.Heap
theorem Z3 {B:Nat} {a w:World} (h:Below B a w) {g:Nat} (hg:B≤g) (c:Array Value):Below B a (w.setRow g c):=
 ⟨h.os,h.tape,h.output,by simpa [World.setRow] using h.size,fun k hk=>by rw [setRow_other w g k _ Zo];exact h.block k hk⟩
theorem ZF {B:Nat} {a w:World} (h:Below B a w) (hB:B≤a.heap.size) (o:Obj):Below B a (w.alloc o):=h.alloc (PO hB h.size) o
theorem Zj {P:Program} {ops:Array Oper} {rest:List Oper} {o:Oper} {a:Act} {w:World} {Q:Exit→Act→World→Prop} (ty:TypeId) (x:Operand) (_:o.op = .load ty x) (h:wpList P ops Q (o :: rest) a w):wpList P ops Q (o :: rest) a w:=h
theorem Zf {P:Program} {ops:Array Oper} {rest:List Oper} {o:Oper} {a:Act} {w:World} {Q:Exit→Act→World→Prop} (Mb:o.guard=none) (ty:TypeId) (x:Operand) (ho:o.op = .load ty x)
  (g:Nat) (hx:a.eval x = .pointer (some ⟨g,0,none⟩)) (t:TypeId) (cs:Array Value) (fr:Nat × Nat) (d:TypeDesc) (hg:w.heap[g]?=some (.cells cs t fr))
  (hu:P.underlying ty=some d) (hd:(match d with | .struct _ | .array _ _=>true|_=>false)=true) (hi:(P.info? ty).map (·.size)=some cs.size)
  (h:wpList P ops Q rest (a.put o.dst (.agg cs)) w):wpList P ops Q (o :: rest) a w:=wpList_load_row Mb ty x ho g hx t cs fr d hg hu hd hi h
theorem tS (l:List Int) (x:Int):YO (l++[x])=YO l++[.int .u32 x]:=by simp [YO]
theorem Oz {w:World} {a a':Option Addr} {c c' l h:Nat} {b:List UInt8} (hh:h≤b.length) (hl:l≤h) (ZY:∀ w xs,xs.length=b.length*1→XR w (.slice a b.length c) b.length xs→XR w (.slice a' (h-l) c') (h-l) ((xs.drop (l*1)).take ((h-l)*1))) (hv:X6 w (.slice a b.length c) b):X6 w (.slice a' (h-l) c') ((b.drop l).take (h-l)):=by
 have h1:=ZY w (RD b) (by rw [Xh,Nat.mul_one]) hv;rw [Nat.mul_one,Nat.mul_one,QN,OX] at h1;have h2:((b.drop l).take (h-l)).length=h-l:=by rw [S4,Rg];omega
 unfold X6;rw [h2];exact h1
theorem tN (v:Value) (b:List UInt8) (w:World) (hv:X6 w v b) (h0:(looks b).2=0) :
  Calls Tryz.prog 125 #[v] w fun e w'=>(∃ a,e = .returned (.tuple #[a,.int .i64 (YM b).2])∧N0 w' a (YM b).1)∧Below w w w':=by
 have HX:Hid (YM b=(TH b (looks b).1,0)):=by show _=_;unfold YM;rw [Z4 (by simp [h0])]
 have C:=fun w1 h=>Ao v b w1 (hv.below (h:Below w w w1))
 have HC:=Zh C;have HV:Hid (∀ w',Below w w w'→X6 w' v b):=fun w' h=>hv.below h
 obtain ⟨l12,l512,l1,l2,l3,l4⟩:=pB h0;obtain ⟨g,off,c,rfl,R4,zZ,W8⟩:=RR hv Zo;clear C hv W8;generalize YM b=X at *
 generalize looks b=Y at *
 obtain ⟨⟨Y1,Y2,Y3⟩,Y4⟩:=Y;obtain rfl:Y4=0:=h0;dsimp only at l1 l2 l3 l4 HX HC;have HN:Hid (∀ w',Below w w w'→∀ p q:Int,Calls Tryz.prog 153 #[(.slice (some ⟨g,off,none⟩) b.length c),.int .i64 p,.int .i64 q] w' fun e w''=>e = .returned (.int .u64 (get b p q:Nat))∧w'=w''):=fun w' h p q=>wZ _ b p q w' (HV.o w' h)
 have HBY:Hid (∀ w',Below w w w'→w'.cell? ⟨g,off,none⟩=some (.int .u8 (at8 b 0:Int))∧w'.cell? ⟨g,off+1,none⟩=some (.int .u8 (at8 b 1:Int))):=fun w' h=>by
  obtain ⟨_,_,_,e,_,_,hc⟩:=RR (HV.o w' h) Zo;cases e;exact ⟨hc 0 Zo,hc 1 Zo⟩
 have q9:Hid (TH b (Y1,Y2,Y3)=⟨decide (128≤at8 b 1),(at8 b 1 % 128:Nat),get b 2 2,get b 4 4,get b 8 4,(List.range (at8 b 0 % 16)).map fun (i:Nat)=>((get b (12+4*(i:Int)) 4:Nat):Int),decide (at8 b 0 / 16 % 2=1),if at8 b 0 / 16 % 2=1 then (get b ((Y1:Int)-4) 2:Int) else 0,if at8 b 0 / 16 % 2=1 then (b.drop Y1).take (Y2-Y1) else [],(b.drop Y2).take (Y3-Y2),(b.length:Int)-(Y3:Int)⟩):=rfl;have QI:=Xl b 0;have SJ:=Xl b 1;have a128:=uq (at8 b 1) SJ;have a127:=jw (at8 b 1) SJ;have Un:=nB (at8 b 0) QI;have T5:=nC (at8 b 0) QI;have b0:get b 2 2<65536:=U5 b 2 2 2 Zd;have b1:get b 4 4<4294967296:=U5 b 4 4 4 Zd;have b2:get b 8 4<4294967296:=U5 b 8 4 4 Zd;have HM:Hid (decide (128≤at8 b 1)=(((at8 b 1 / 128 % 2*128:Nat):Int) != 0)):=by show _=_;rw [Bool.eq_iff_iff,Pz,RQ];omega
 have hT:at8 b 1 % 128<128:=Nat.mod_lt _ Zd;have hm:at8 b 0 % 16<16:=Nat.mod_lt _ Zd;have hE:at8 b 0 / 16 % 2<2:=Nat.mod_lt _ Zd;generalize at8 b 1 / 128 % 2*128=M at *
 generalize at8 b 1 % 128=T at *
 generalize at8 b 0 % 16=m at *
 generalize at8 b 0 / 16 % 2=E at *
 have hTw:IntKind.i64.wrap (T:Int)=(T:Int):=Tm _ Zo;have hmw:IntKind.i64.wrap (m:Int)=(m:Int):=Tm _ Zo;have hLw:IntKind.i64.wrap ((b.length:Int)-(Y3:Int))=(b.length:Int)-(Y3:Int):=Tm _ Zo;have hbI:(1:Int)<(b.length:Int):=by omega
 have hbN:1<b.length:=by omega
 have hbI0:(0:Int)<(b.length:Int):=by omega
 have hbN0:0<b.length:=by omega
 have hbZ:¬b.length=0:=by omega
 have hq0w:IntKind.u16.wrap ((get b 2 2:Nat):Int)=((get b 2 2:Nat):Int):=by rw [IntKind.wrap_u16];omega
 have hq1w:IntKind.u32.wrap ((get b 4 4:Nat):Int)=((get b 4 4:Nat):Int):=by rw [NI];omega
 have hq2w:IntKind.u32.wrap ((get b 8 4:Nat):Int)=((get b 8 4:Nat):Int):=by rw [NI];omega
 have HCC:=Zh R4;clear b0 b1 b2 QI SJ R4 zZ;go_enter Tryz.func125,Tryz.ntmps125;go_wp2_with fail
 refine (HC.o _ (Z' _ _)).mono ?_;rintro e w2 ⟨rfl,Y7⟩;clear HC;have oK:=Y7.block w.heap.size BJ;rw [Z8] at oK;have Sh:w.heap.size+1≤w2.heap.size:=by have h:=Y7.size;have h:(w.heap.push _).size≤w2.heap.size:=h;rw [OI] at h;exact h
 have cJ:Below w w w2:=(Z' w _).trans (Y7.mono mQ);have HRES:Hid ((w2.alloc (.cells (Qn (Y1:Int) (Y2:Int) (Y3:Int)) 238)).heap[w.heap.size]?=some (.cells VC 79)):=((Z' w2 _).block _ Zo).trans oK;have bq:Hid ((w2.alloc (.cells (Qn (Y1:Int) (Y2:Int) (Y3:Int)) 238)).heap[w2.heap.size]?=some (.cells (Qn (Y1:Int) (Y2:Int) (Y3:Int)) 238)):=Z8 _ _;have Wc:Hid (Below w w (w2.alloc (.cells (Qn (Y1:Int) (Y2:Int) (Y3:Int)) 238))):=ZF cJ (Zw _) _;have Cq:w2.heap.size<(w2.alloc (.cells (Qn (Y1:Int) (Y2:Int) (Y3:Int)) 238)).heap.size:=by show _<(w2.heap.push _).size;rw [OI];exact Nat.lt_succ_self _
 clear oK Y7 cJ;go_wp2_with fail
 generalize w2.alloc (.cells (Qn (Y1:Int) (Y2:Int) (Y3:Int)) 238)=w3 at *
 have H9:w.heap.size<w2.heap.size:=by omega
 clear Sh;generalize w2.heap.size=s at *
 clear w2
 have Rz:Hid (∀ w',Below w3 w3 w'→w'.cell? ⟨g,off+1,none⟩=some (.int .u8 (at8 b 1:Int))∧w'.cell? ⟨s,2,none⟩=some (.int .i64 (Y3:Int))∧Below w3 w3 w'):=fun w' h=>
  ⟨(HBY.o w' (Wc.o.trans (h.mono (by have:=Wc.o.size;omega)))).2,Zc ((h.block s Cq).trans bq.o) 2 rfl,h⟩
 refine SX ?_;refine wp_region_held_drew (S:=(fun w'=>w'.cell? ⟨g,off+1,none⟩=some (.int .u8 (at8 b 1:Int))∧w'.cell? ⟨s,2,none⟩=some (.int .i64 (Y3:Int))∧Below w3 w3 w')) ZB ?_ (fun Ye=>?_)
 ·(try dsimp only)
  exact Rz.o _ (YJ _ _).drew
 refine YA 0 (h:=YA 1 (h:=YA 2 (h:=YA 3 (h:=YA 4 (h:=YA 5 (h:=YA 6 (h:=YA 7 (h:=YA 8 (h:=YA 9 (h:=YA 10 (h:=YA 11 (h:=YA 12 (h:=YA 13 (h:=YA 14 (h:=YA 15 (h:=?_))))))))))))))));refine R7 16 (h:=fun K hK=>?_);go_simp;refine hK.out _ _ ?_ (fun XU=>?_)
 ·exact fN
 clear hK K;try simp only [Z_.pt]
 refine R7 17 (h:=fun K hK=>?_);refine Sq Zr 79 (.tmp 6) (.tmp 32) Zr Zr w3.heap.size (Qb ((M:Int) != 0) (T:Int) 0 0 0 none 0 0 false 0 none 0 0 none 0 0 ((b.length:Int)-(Y3:Int))) Zr Zr 79 _ (Z8 w3.drew _) ZB ZB ZB ?_;refine hK.out _ _ ?_ (fun VG=>?_)
 ·exact fN
 clear hK K;try simp only [Z_.pt]
 refine wpAnyH_done ZB ?_ _;refine RA ?_
 have FZ:Hid (PK w ((w3.alloc (.cells VC 79)).drew.setRow w3.heap.size (Qb ((M:Int) != 0) (T:Int) 0 0 0 none 0 0 false 0 none 0 0 none 0 0 ((b.length:Int)-(Y3:Int)))) s w3.heap.size (Qn (Y1:Int) (Y2:Int) (Y3:Int)) (Qb ((M:Int) != 0) (T:Int) 0 0 0 none 0 0 false 0 none 0 0 none 0 0 ((b.length:Int)-(Y3:Int)))):=
  (PK.mk (cs:=Yz3) (ZF Wc.o.drew (Zw _) _) (((Z' w3.drew _).block _ (show w.heap.size<w3.heap.size by omega)).trans HRES.o) (((Z' w3.drew _).block _ Cq).trans bq.o) (Z8 w3.drew _) ⟨H9,Cq⟩).row (Qb ((M:Int) != 0) (T:Int) 0 0 0 none 0 0 false 0 none 0 0 none 0 0 ((b.length:Int)-(Y3:Int)))
 clear Rz HRES bq Wc Ye XU VG;generalize (w3.alloc (.cells VC 79)).drew.setRow w3.heap.size (Qb ((M:Int) != 0) (T:Int) 0 0 0 none 0 0 false 0 none 0 0 none 0 0 ((b.length:Int)-(Y3:Int)))=w5 at *
 have hs4:s<w3.heap.size:=Cq;clear Cq;generalize w3.heap.size=p at *
 clear w3;have Rl:=Zh FZ.o.Zg;have u2:w5.cell? ⟨p,2,none⟩=some (.int .u16 0):=FZ.o.cell 2;have u3:w5.cell? ⟨p,3,none⟩=some (.int .u32 0):=FZ.o.cell 3;have u4:w5.cell? ⟨p,4,none⟩=some (.int .u32 0):=FZ.o.cell 4;have f2:=FZ.o.frozen 2;have f3:=FZ.o.frozen 3;have f4:=FZ.o.frozen 4;go_upto_region 6 with (go_at_call 153;refine (HN.o _ Rl.o _ _).mono ?_;rintro e w' ⟨rfl,rfl⟩)
 have bh:Hid (PK w (((w5.setCell ⟨p,2,none⟩ (.int .u16 ((get b 2 2:Nat):Int))).setCell ⟨p,3,none⟩ (.int .u32 ((get b 4 4:Nat):Int))).setCell ⟨p,4,none⟩ (.int .u32 ((get b 8 4:Nat):Int))) s p (Qn (Y1:Int) (Y2:Int) (Y3:Int)) (Qb ((M:Int) != 0) (T:Int) ((get b 2 2:Nat):Int) ((get b 4 4:Nat):Int) ((get b 8 4:Nat):Int) none 0 0 false 0 none 0 0 none 0 0 ((b.length:Int)-(Y3:Int)))):=((FZ.o.set 2 (.int .u16 ((get b 2 2:Nat):Int))).set 3 (.int .u32 ((get b 4 4:Nat):Int))).set 4 (.int .u32 ((get b 8 4:Nat):Int));clear FZ Rl u2 u3 u4 f2 f3 f4;generalize ((w5.setCell ⟨p,2,none⟩ (.int .u16 ((get b 2 2:Nat):Int))).setCell ⟨p,3,none⟩ (.int .u32 ((get b 4 4:Nat):Int))).setCell ⟨p,4,none⟩ (.int .u32 ((get b 8 4:Nat):Int))=w6 at *
 clear w5 hq0w hq1w hq2w hTw hLw;generalize hg0:get b 2 2=q0 at *
 generalize hg1:get b 4 4=q1 at *
 generalize om:get b 8 4=q2 at *
 have HG0:=Zh hg0;have OH:=Zh hg1;have KF:=Zh om;clear hg0 hg1 om;obtain ⟨d0,d1⟩:=HBY.o _ bh.o.Zg;clear d1;go_upto_region 7 with fail
 have HPL0:Hid (PL w w6 s p (Qn (Y1:Int) (Y2:Int) (Y3:Int)) (Qb ((M:Int) != 0) (T:Int) (q0:Int) (q1:Int) (q2:Int) none 0 0 false 0 none 0 0 none 0 0 ((b.length:Int)-(Y3:Int))) (.slice none 0 0) 0 (YO ((List.range 0).map fun (i:Nat)=>((get b (12+4*(i:Int)) 4:Nat):Int)))):=⟨bh.o,TY _ _ _ _⟩;clear bh d0;go_loopw [50] (fun i w'=>∃ (j:Nat) (cv:Value),j≤m∧i = .int .i64 (j:Int)∧PL w w' s p (Qn (Y1:Int) (Y2:Int) (Y3:Int)) [.bool ((M:Int) != 0),.int .i64 (T:Int),.int .u16 (q0:Int),.int .u32 (q1:Int),.int .u32 (q2:Int),cv,.bool false,.int .u16 0,.slice none 0 0,.slice none 0 0,.int .i64 ((b.length:Int)-(Y3:Int))] cv j (YO ((List.range j).map fun (i:Nat)=>((get b (12+4*(i:Int)) 4:Nat):Int)))) (fun i _=>m-(intOf i).toNat)
 case atStart=>exact ⟨0,_,Tk _,rfl,HPL0.o⟩
 case round=>
  clear HPL0;obtain ⟨j,cv,hj,rfl,oI⟩:=hrel;obtain ⟨Mn,Mo,rfl,-,-⟩:=Row.Z6 oI.own;have vB:=Zh oI;clear oI;by_cases zX:j<m
  ·have iK:Hid (PL w wr.drew s p (Qn (Y1:Int) (Y2:Int) (Y3:Int)) (Qb ((M:Int) != 0) (T:Int) (q0:Int) (q1:Int) (q2:Int) Mn j Mo false 0 none 0 0 none 0 0 ((b.length:Int)-(Y3:Int))) (.slice Mn j Mo) j (YO ((List.range j).map fun (i:Nat)=>((get b (12+4*(i:Int)) 4:Nat):Int)))):=⟨vB.o.pk.drew,vB.o.own⟩;have c5:wr.cell? ⟨p,5,none⟩=some (.slice Mn j Mo):=vB.o.pk.cell 5;have oI:p<wr.heap.size:=vB.o.pk.sS;have C9:=Zh (HN.o wr.drew iK.o.pk.Zg (12+4*(j:Int)) 4);have Ac:get b (12+4*(j:Int)) 4<4294967296:=U5 b _ 4 4 Zd;obtain ⟨xs,Ia⟩:∃ xs,xs=YO ((List.range j).map fun (i:Nat)=>((get b (12+4*(i:Int)) 4:Nat):Int)):=⟨_,rfl⟩;rw [←Ia] at vB iK;have HXS:=Zh Ia;clear Ia;generalize qO:get b (12+4*(j:Int)) 4=x at *
   have DI:=Zh qO;clear qO;have IM:Hid (PL w (wr.alloc (.cells #[.int .u32 (x:Int)] 66)).drew s p (Qn (Y1:Int) (Y2:Int) (Y3:Int)) (Qb ((M:Int) != 0) (T:Int) (q0:Int) (q1:Int) (q2:Int) Mn j Mo false 0 none 0 0 none 0 0 ((b.length:Int)-(Y3:Int))) (.slice Mn j Mo) j xs):=⟨vB.o.pk.below (Z' _ _).drew,Yw vB.o.own (Z' _ _).drew⟩;have lG:IntKind.i64.wrap (4*(j:Int))=4*(j:Int):=Tm _ Zo;have aj:IntKind.i64.wrap (12+4*(j:Int))=12+4*(j:Int):=Tm _ Zo;have hxw:IntKind.u32.wrap (x:Int)=(x:Int):=by rw [NI];omega
   go_upto_region 9 with fail
   refine SX ?_;refine wp_region_held_drew (S:=(fun w'=>Below w w w')) ZB ?_ (fun Ye=>?_)
   ·(try dsimp only)
    exact iK.o.pk.Zg
   refine YA 0 (h:=YA 2 (h:=YA 3 (h:=YA 4 (h:=YA 5 (h:=?_)))));refine wpAnyH_ready (rs:=[1,6]) ZB Zi ?_;refine AllReadyH.cons (i:=1) rfl (fun K hK=>?_) ?_
   ·skip
    go_simp;refine hK.out _ _ ?_ (fun XU=>?_)
    ·exact uj
    clear hK K;try simp only [Z_.pt]
    refine R7 6 (h:=fun K hK=>?_);go_simp;refine C9.o.mono ?_;rintro e w' ⟨rfl,rfl⟩;go_wp2_with fail
    refine hK.out _ _ ?_ (fun VG=>?_)
    ·exact uj
    clear hK K;try simp only [Z_.pt]
    refine YA 7 (h:=?_);refine R7 8 (h:=fun K hK=>?_);go_simp;refine hK.out _ _ ?_ (fun Nj=>?_)
    ·exact uj
    clear hK K;try simp only [Z_.pt]
    refine R7 9 (h:=fun K hK=>?_);refine Zp Zr (.tmp 54) (.tmp 61) 29 Zr (p+1) Vo (.slice Mn j Mo) j xs Zr IM.o.own (.slice (some ⟨wr,0,none⟩) 1 1) 1 [.int .u32 (x:Int)] Zr (Vz wr 66 1 [.int .u32 (x:Int)] Zd) rfl (by intro u hu;simp at hu;subst hu;rfl) Zo Zo (by show _≤(wr.heap.push _).size;rw [OI];omega) ?_;intro v' w5 HO HG;obtain ⟨va,vc,o5,-,-⟩:=Row.Z6 HO.o;subst o5;have qy:=Zh (IM.o.grown HG.o);have c55:w5.cell? ⟨p,5,none⟩=some (.slice Mn j Mo):=qy.o.cell 5;have f55:=qy.o.frozen 5;refine hK.out _ _ ?_ (fun Gu=>?_)
    ·exact uj
    clear hK K;try simp only [Z_.pt]
    refine YA 10 (h:=?_);refine R7 11 (h:=fun K hK=>?_);go_simp;have HP6:=Zh (qy.o.set 5 (.slice va (j+1) vc));have IK:=Zh (U8 HO.o (b:=p) (o:=5) (Nat.lt_succ_self _) (.slice va (j+1) vc));refine hK.out _ _ ?_ (fun Gv=>?_)
    ·exact uj
    exact bO
   refine AllReadyH.cons (i:=6) rfl (fun K hK=>?_) AllReadyH.nil;go_simp;refine C9.o.mono ?_;rintro e w' ⟨rfl,rfl⟩;go_wp2_with fail
   refine hK.out _ _ ?_ (fun nU=>?_)
   ·exact uj
   clear hK K;try simp only [Z_.pt]
   refine YA 7 (h:=?_);refine wpAnyH_ready (rs:=[1,8]) ZB Zi ?_;refine AllReadyH.cons (i:=1) rfl (fun K hK=>?_) ?_
   ·skip
    go_simp;refine hK.out _ _ ?_ (fun cE=>?_)
    ·exact uj
    clear hK K;try simp only [Z_.pt]
    refine R7 8 (h:=fun K hK=>?_);go_simp;refine hK.out _ _ ?_ (fun cF=>?_)
    ·exact uj
    clear hK K;try simp only [Z_.pt]
    refine R7 9 (h:=fun K hK=>?_);refine Zp Zr (.tmp 54) (.tmp 61) 29 Zr (p+1) Vo (.slice Mn j Mo) j xs Zr IM.o.own (.slice (some ⟨wr,0,none⟩) 1 1) 1 [.int .u32 (x:Int)] Zr (Vz wr 66 1 [.int .u32 (x:Int)] Zd) rfl (by intro u hu;simp at hu;subst hu;rfl) Zo Zo (by show _≤(wr.heap.push _).size;rw [OI];omega) ?_;intro v' w5 HO HG;obtain ⟨va,vc,o5,-,-⟩:=Row.Z6 HO.o;subst o5;have qy:=Zh (IM.o.grown HG.o);have c55:w5.cell? ⟨p,5,none⟩=some (.slice Mn j Mo):=qy.o.cell 5;have f55:=qy.o.frozen 5;refine hK.out _ _ ?_ (fun cG=>?_)
    ·exact uj
    clear hK K;try simp only [Z_.pt]
    refine YA 10 (h:=?_);refine R7 11 (h:=fun K hK=>?_);go_simp;have HP6:=Zh (qy.o.set 5 (.slice va (j+1) vc));have IK:=Zh (U8 HO.o (b:=p) (o:=5) (Nat.lt_succ_self _) (.slice va (j+1) vc));refine hK.out _ _ ?_ (fun Cf=>?_)
    ·exact uj
    exact bO
   refine AllReadyH.cons (i:=8) rfl (fun K hK=>?_) AllReadyH.nil;go_simp;refine hK.out _ _ ?_ (fun Cg=>?_)
   ·exact uj
   clear hK K;try simp only [Z_.pt]
   refine R7 1 (h:=fun K hK=>?_);go_simp;refine hK.out _ _ ?_ (fun Ch=>?_)
   ·exact uj
   clear hK K;try simp only [Z_.pt]
   refine R7 9 (h:=fun K hK=>?_);refine Zp Zr (.tmp 54) (.tmp 61) 29 Zr (p+1) Vo (.slice Mn j Mo) j xs Zr IM.o.own (.slice (some ⟨wr,0,none⟩) 1 1) 1 [.int .u32 (x:Int)] Zr (Vz wr 66 1 [.int .u32 (x:Int)] Zd) rfl (by intro u hu;simp at hu;subst hu;rfl) Zo Zo (by show _≤(wr.heap.push _).size;rw [OI];omega) ?_;intro v' w5 HO HG;obtain ⟨va,vc,o5,-,-⟩:=Row.Z6 HO.o;subst o5;have qy:=Zh (IM.o.grown HG.o);have c55:w5.cell? ⟨p,5,none⟩=some (.slice Mn j Mo):=qy.o.cell 5;have f55:=qy.o.frozen 5;refine hK.out _ _ ?_ (fun Ci=>?_)
   ·exact uj
   clear hK K;try simp only [Z_.pt]
   refine YA 10 (h:=?_);refine R7 11 (h:=fun K hK=>?_);go_simp;have HP6:=Zh (qy.o.set 5 (.slice va (j+1) vc));have IK:=Zh (U8 HO.o (b:=p) (o:=5) (Nat.lt_succ_self _) (.slice va (j+1) vc));refine hK.out _ _ ?_ (fun uB=>?_)
   ·exact uj
   exact bO
  ·obtain rfl:j=m:=by omega
   obtain ⟨CL,hCL⟩:∃ CL,CL=(List.range j).map fun (i:Nat)=>((get b (12+4*(i:Int)) 4:Nat):Int):=⟨_,rfl⟩
   have L_:CL.length=j:=by rw [hCL,TB,List.length_range]
   rw [←hCL] at vB q9;have Iq:Hid (PR w wr s p (Qn (Y1:Int) (Y2:Int) (Y3:Int)) (Qb ((M:Int) != 0) (T:Int) (q0:Int) (q1:Int) (q2:Int) Mn j Mo false 0 none 0 0 none 0 0 ((b.length:Int)-(Y3:Int))) (.slice Mn j Mo) (.slice none 0 0) (.slice none 0 0) CL [] []):=⟨vB.o.pk,by rw [L_];exact Row.Z6 vB.o.own,Row.nil _ _,Row.nil _ _⟩;have HCLE:=Zh L_;clear vB hCL L_ zX hj;obtain ⟨d0,d1⟩:=HBY.o _ Iq.o.pk.Zg;clear d1;have gX:p<wr.heap.size:=Iq.o.pk.sS;obtain hE0|hE1:E=0∨E=1:=by omega
   ·subst hE0;rw [Nat.zero_mul] at T5;go_upto_region 13 with fail
    have sc1:wr.cell? ⟨s,1,none⟩=some (.int .i64 (Y2:Int)):=Iq.o.pk.Q_ 1;have sc2:wr.cell? ⟨s,2,none⟩=some (.int .i64 (Y3:Int)):=Iq.o.pk.Q_ 2;obtain ⟨a',Uw,ZY⟩:=Wk (P:=Tryz.prog) VF (some ⟨g,off,none⟩) b.length c Y2 Y3 l3 l4 HCC.o;have oJ:((b.drop Y2).take (Y3-Y2)).length=Y3-Y2:=by rw [S4,Rg];omega
    have tZ:=Zh (LL _ ((b.drop Y2).take (Y3-Y2)) wr (Oz l4 l3 ZY (HV.o _ Iq.o.pk.Zg)) (by rw [oJ];omega));rw [oJ] at tZ;clear ZY oJ;obtain ⟨PY,cI⟩:∃ PY,PY=(b.drop Y2).take (Y3-Y2):=⟨_,rfl⟩;rw [←cI] at tZ q9;have HPY:=Zh cI;clear cI;go_upto_region 14 with (go_at_call 154;refine tZ.o.mono ?_;rintro e UH ⟨⟨pv,rfl,sG⟩,PE⟩;obtain ⟨pa,pc,Md,-,-⟩:=id sG;subst Md;have S6:=Zh (Iq.o.below PE);have mr:=Zh sG;clear sG PE;have c9:UH.cell? ⟨p,9,none⟩=some (.slice none 0 0):=S6.o.pk.cell 9;have f9:=S6.o.pk.frozen 9)
    have FZ:Hid (PK w (UH.setCell ⟨p,9,none⟩ (.slice pa (Y3-Y2) pc)) s p (Qn (Y1:Int) (Y2:Int) (Y3:Int)) (Qb ((M:Int) != 0) (T:Int) (q0:Int) (q1:Int) (q2:Int) Mn j Mo false 0 none 0 0 pa (Y3-Y2) pc ((b.length:Int)-(Y3:Int)))):=S6.o.pk.set 9 (.slice pa (Y3-Y2) pc);have KG:=Zh (S6.o.csr.setCell (p:=⟨p,9,none⟩) S6.o.pk.Y8 Zd (.slice pa (Y3-Y2) pc));have ue:=Zh (S6.o.exr.setCell (p:=⟨p,9,none⟩) S6.o.pk.Y8 Zd (.slice pa (Y3-Y2) pc));have yU:=Zh (mr.o.setCell (p:=⟨p,9,none⟩) S6.o.pk.Y8 Zd (.slice pa (Y3-Y2) pc));clear Iq S6 mr tZ c9 f9 sc1 sc2 Uw;generalize UH.setCell ⟨p,9,none⟩ (.slice pa (Y3-Y2) pc)=JR at *
    clear UH;have O7:JR.heap[p]?=some (.cells (Qb ((M:Int) != 0) (T:Int) (q0:Int) (q1:Int) (q2:Int) Mn j Mo false 0 none 0 0 pa (Y3-Y2) pc ((b.length:Int)-(Y3:Int))) 79 (0,0)):=FZ.o.Y8;have K7:JR.heap[w.heap.size]?=some (.cells VC 79 (0,0)):=FZ.o.res;go_wp2_with (first|(with_reducible refine Zj 79 (.tmp 6) rfl ?_;refine Zf rfl 79 (.tmp 6) rfl p rfl 79 (Qb ((M:Int) != 0) (T:Int) (q0:Int) (q1:Int) (q2:Int) Mn j Mo false 0 none 0 0 pa (Y3-Y2) pc ((b.length:Int)-(Y3:Int))) (0,0) _ O7 Tryz.underlying79 rfl ZB ?_)|(with_reducible refine ZU 79 (.tmp 2) (.tmp 94) rfl ?_;refine ZV rfl 79 (.tmp 2) (.tmp 94) rfl rfl w.heap.size (Qb ((M:Int) != 0) (T:Int) (q0:Int) (q1:Int) (q2:Int) Mn j Mo false 0 none 0 0 pa (Y3-Y2) pc ((b.length:Int)-(Y3:Int))) rfl rfl 79 _ K7 ZB ZB ZB ?_))
    have y0:=setRow_heap JR w.heap.size _ (Qb ((M:Int) != 0) (T:Int) (q0:Int) (q1:Int) (q2:Int) Mn j Mo false 0 none 0 0 pa (Y3-Y2) pc ((b.length:Int)-(Y3:Int))) 79 (0,0) K7;have z0:=cell_of y0 0;have z1:=cell_of y0 1;have z2:=cell_of y0 2;have z3:=cell_of y0 3;have z4:=cell_of y0 4;have z5:=cell_of y0 5;have z6:=cell_of y0 6;have z7:=cell_of y0 7;have z8:=cell_of y0 8;have z9:=cell_of y0 9;have qi:=cell_of y0 10;simp only [SE,SD,R8] at z0 z1 z2 z3 z4 z5 z6 z7 z8 z9 qi;refine VD (v:= .tuple (Qo (Qb ((M:Int) != 0) (T:Int) (q0:Int) (q1:Int) (q2:Int) Mn j Mo false 0 none 0 0 pa (Y3-Y2) pc ((b.length:Int)-(Y3:Int))) 0)) (by simp [results,Tryz.results125,go_sem,z0,z1,z2,z3,z4,z5,z6,z7,z8,z9,qi]) rfl ⟨⟨_,by rw [HX.o],?_⟩,?_⟩
    ·rw [HX.o];show N0 _ _ (TH b (Y1,Y2,Y3));rw [q9.o,HM.o];refine ⟨.slice Mn j Mo,.slice none 0 0,.slice pa (Y3-Y2) pc,rfl,Row.setRow KG.o K7 Zd _,Row.setRow ue.o K7 Zd _,?_⟩;have h:=Row.setRow yU.o K7 Zd (Qb ((M:Int) != 0) (T:Int) (q0:Int) (q1:Int) (q2:Int) Mn j Mo false 0 none 0 0 pa (Y3-Y2) pc ((b.length:Int)-(Y3:Int)));rw [show Y3-Y2=PY.length by rw [HPY.o,S4,Rg];omega] at h ⊢;exact h
    ·exact Z3 FZ.o.Zg (Zw _) _
   ·subst hE1;rw [Nat.one_mul] at T5;go_upto_region 12 with fail
    have sc0:wr.cell? ⟨s,0,none⟩=some (.int .i64 (Y1:Int)):=Iq.o.pk.Q_ 0;have vE:Hid (∀ w',Below wr wr w'→w'.cell? ⟨s,0,none⟩=some (.int .i64 (Y1:Int))∧w'.cell? ⟨s,1,none⟩=some (.int .i64 (Y2:Int))∧Below w w w'):=fun w' h=>⟨(Iq.o.below h).pk.Q_ 0,(Iq.o.below h).pk.Q_ 1,(Iq.o.below h).pk.Zg⟩
    obtain ⟨a',Uw,ZY⟩:=Wk (P:=Tryz.prog) VF (some ⟨g,off,none⟩) b.length c Y1 Y2 l2 Zo HCC.o;have oJ:((b.drop Y1).take (Y2-Y1)).length=Y2-Y1:=by rw [S4,Rg];omega
    have tZ:=Zh (LL _ ((b.drop Y1).take (Y2-Y1)) wr.drew (Oz Zo l2 ZY (HV.o _ Iq.o.pk.Zg.drew)) (by rw [oJ];omega));rw [oJ] at tZ;clear ZY oJ d0 sc0;obtain ⟨ES,hES⟩:∃ ES,ES=(b.drop Y1).take (Y2-Y1):=⟨_,rfl⟩;have gi:ES.length=Y2-Y1:=by rw [hES,S4,Rg];omega
    rw [←hES] at tZ q9;have HEL:=Zh gi;clear hES gi;have hw4:IntKind.i64.wrap ((Y1:Int)-4)=(Y1:Int)-4:=Tm _ Zo;have Ej:get b ((Y1:Int)-4) 2<65536:=U5 b _ 2 2 Zd;have CNP:=Zh (HN.o wr.drew Iq.o.pk.Zg.drew ((Y1:Int)-4) 2);generalize get b ((Y1:Int)-4) 2=pf at *
    have hpw:IntKind.u16.wrap (pf:Int)=(pf:Int):=by rw [IntKind.wrap_u16];omega
    clear Ej;refine SX ?_;refine wp_region_held_drew (S:=(fun w'=>w'.cell? ⟨s,0,none⟩=some (.int .i64 (Y1:Int))∧w'.cell? ⟨s,1,none⟩=some (.int .i64 (Y2:Int))∧Below w w w')) ZB ?_ (fun Ye=>?_)
    ·(try dsimp only)
     exact vE.o _ (YJ _ _).drew
    refine YA 0 (h:=YA 1 (h:=YA 2 (h:=YA 3 (h:=YA 6 (h:=YA 7 (h:=YA 8 (h:=YA 9 (h:=YA 10 (h:=YA 11 (h:=YA 13 (h:=?_)))))))))));refine R7 4 (h:=fun K hK=>?_);go_simp;refine CNP.o.mono ?_;rintro e w' ⟨rfl,rfl⟩;go_wp2_with fail
    refine hK.out _ _ ?_ (fun XU=>?_)
    ·exact m_
    clear hK K;try simp only [Z_.pt]
    refine YA 5 (h:=?_);refine R7 12 (h:=fun K hK=>?_);go_simp;refine tZ.o.mono ?_;rintro e w8 ⟨⟨ev,rfl,RU⟩,qG⟩;obtain ⟨ea,ec,Ma,-,-⟩:=id RU;subst Ma;go_wp2_with fail
    have JU:=Zh ((Iq.o.drew).below qG);have HER:=Zh RU;clear RU;have v6:w8.cell? ⟨p,6,none⟩=some (.bool false):=JU.o.pk.cell 6;have v7:w8.cell? ⟨p,7,none⟩=some (.int .u16 0):=JU.o.pk.cell 7;have v8:w8.cell? ⟨p,8,none⟩=some (.slice none 0 0):=JU.o.pk.cell 8;have g6:=JU.o.pk.frozen 6;have g7:=JU.o.pk.frozen 7;have g8:=JU.o.pk.frozen 8;have hp8:p<w8.heap.size:=JU.o.pk.sS;have k0:=JU.o.pk.Q_ 0;have k1:=JU.o.pk.Q_ 1;refine hK.out _ _ ?_ (fun VG=>?_)
    ·exact m_
    clear hK K;try simp only [Z_.pt]
    refine R7 14 (h:=fun K hK=>?_);go_simp;have T9:=Zh (JU.o.set 6 (.bool true));refine hK.out _ _ ?_ (fun Nj=>?_)
    ·exact m_
    clear hK K;try simp only [Z_.pt]
    refine YA 15 (h:=?_);refine R7 16 (h:=fun K hK=>?_);go_simp;have Px:=Zh (T9.o.set 7 (.int .u16 (pf:Int)));refine hK.out _ _ ?_ (fun Gu=>?_)
    ·exact m_
    clear hK K;try simp only [Z_.pt]
    refine YA 17 (h:=?_);refine R7 18 (h:=fun K hK=>?_);go_simp;have iL:=Zh (Px.o.set 8 (.slice ea (Y2-Y1) ec));refine hK.out _ _ ?_ (fun Gv=>?_)
    ·exact m_
    clear hK K;try simp only [Z_.pt]
    refine wpAnyH_done ZB ?_ _;refine RA ?_;have HER3:=Zh (((HER.o.setCell (p:=⟨p,6,none⟩) JU.o.pk.Y8 Zd (.bool true)).setCell (p:=⟨p,7,none⟩) T9.o.pk.Y8 Zd (.int .u16 (pf:Int))).setCell (p:=⟨p,8,none⟩) Px.o.pk.Y8 Zd (.slice ea (Y2-Y1) ec));have HPRE:Hid (PR w (((w8.setCell ⟨p,6,none⟩ (.bool true)).setCell ⟨p,7,none⟩ (.int .u16 (pf:Int))).setCell ⟨p,8,none⟩ (.slice ea (Y2-Y1) ec)) s p (Qn (Y1:Int) (Y2:Int) (Y3:Int)) (Qb ((M:Int) != 0) (T:Int) (q0:Int) (q1:Int) (q2:Int) Mn j Mo true (pf:Int) ea (Y2-Y1) ec none 0 0 ((b.length:Int)-(Y3:Int))) (.slice Mn j Mo) (.slice ea (Y2-Y1) ec) (.slice none 0 0) CL ES []):=⟨iL.o.pk,iL.o.csr,by rw [HEL.o];exact HER3.o,Row.nil _ _⟩;clear JU T9 Px iL HER HER3 v6 v7 v8 g6 g7 g8 hp8 k0 k1 vE Iq CNP tZ Uw hw4 hpw gX Ye XU VG Nj Gu Gv qG;generalize ((w8.setCell ⟨p,6,none⟩ (.bool true)).setCell ⟨p,7,none⟩ (.int .u16 (pf:Int))).setCell ⟨p,8,none⟩ (.slice ea (Y2-Y1) ec)=w9 at *
    clear w8;have Iq:=HPRE;clear HPRE;obtain ⟨d0,-⟩:=HBY.o _ Iq.o.pk.Zg;have gX:p<w9.heap.size:=Iq.o.pk.sS;go_upto_region 13 with fail
    have sc1:w9.cell? ⟨s,1,none⟩=some (.int .i64 (Y2:Int)):=Iq.o.pk.Q_ 1;have sc2:w9.cell? ⟨s,2,none⟩=some (.int .i64 (Y3:Int)):=Iq.o.pk.Q_ 2;obtain ⟨a',Uw,ZY⟩:=Wk (P:=Tryz.prog) VF (some ⟨g,off,none⟩) b.length c Y2 Y3 l3 l4 HCC.o;have oJ:((b.drop Y2).take (Y3-Y2)).length=Y3-Y2:=by rw [S4,Rg];omega
    have tZ:=Zh (LL _ ((b.drop Y2).take (Y3-Y2)) w9 (Oz l4 l3 ZY (HV.o _ Iq.o.pk.Zg)) (by rw [oJ];omega));rw [oJ] at tZ;clear ZY oJ;obtain ⟨PY,cI⟩:∃ PY,PY=(b.drop Y2).take (Y3-Y2):=⟨_,rfl⟩;rw [←cI] at tZ q9;have HPY:=Zh cI;clear cI;go_upto_region 14 with (go_at_call 154;refine tZ.o.mono ?_;rintro e UH ⟨⟨pv,rfl,sG⟩,PE⟩;obtain ⟨pa,pc,Md,-,-⟩:=id sG;subst Md;have S6:=Zh (Iq.o.below PE);have mr:=Zh sG;clear sG PE;have c9:UH.cell? ⟨p,9,none⟩=some (.slice none 0 0):=S6.o.pk.cell 9;have f9:=S6.o.pk.frozen 9)
    have FZ:Hid (PK w (UH.setCell ⟨p,9,none⟩ (.slice pa (Y3-Y2) pc)) s p (Qn (Y1:Int) (Y2:Int) (Y3:Int)) (Qb ((M:Int) != 0) (T:Int) (q0:Int) (q1:Int) (q2:Int) Mn j Mo true (pf:Int) ea (Y2-Y1) ec pa (Y3-Y2) pc ((b.length:Int)-(Y3:Int)))):=S6.o.pk.set 9 (.slice pa (Y3-Y2) pc);have KG:=Zh (S6.o.csr.setCell (p:=⟨p,9,none⟩) S6.o.pk.Y8 Zd (.slice pa (Y3-Y2) pc));have ue:=Zh (S6.o.exr.setCell (p:=⟨p,9,none⟩) S6.o.pk.Y8 Zd (.slice pa (Y3-Y2) pc));have yU:=Zh (mr.o.setCell (p:=⟨p,9,none⟩) S6.o.pk.Y8 Zd (.slice pa (Y3-Y2) pc));clear Iq S6 mr tZ c9 f9 sc1 sc2 Uw;generalize UH.setCell ⟨p,9,none⟩ (.slice pa (Y3-Y2) pc)=JR at *
    clear UH;have O7:JR.heap[p]?=some (.cells (Qb ((M:Int) != 0) (T:Int) (q0:Int) (q1:Int) (q2:Int) Mn j Mo true (pf:Int) ea (Y2-Y1) ec pa (Y3-Y2) pc ((b.length:Int)-(Y3:Int))) 79 (0,0)):=FZ.o.Y8;have K7:JR.heap[w.heap.size]?=some (.cells VC 79 (0,0)):=FZ.o.res;go_wp2_with (first|(with_reducible refine Zj 79 (.tmp 6) rfl ?_;refine Zf rfl 79 (.tmp 6) rfl p rfl 79 (Qb ((M:Int) != 0) (T:Int) (q0:Int) (q1:Int) (q2:Int) Mn j Mo true (pf:Int) ea (Y2-Y1) ec pa (Y3-Y2) pc ((b.length:Int)-(Y3:Int))) (0,0) _ O7 Tryz.underlying79 rfl ZB ?_)|(with_reducible refine ZU 79 (.tmp 2) (.tmp 94) rfl ?_;refine ZV rfl 79 (.tmp 2) (.tmp 94) rfl rfl w.heap.size (Qb ((M:Int) != 0) (T:Int) (q0:Int) (q1:Int) (q2:Int) Mn j Mo true (pf:Int) ea (Y2-Y1) ec pa (Y3-Y2) pc ((b.length:Int)-(Y3:Int))) rfl rfl 79 _ K7 ZB ZB ZB ?_))
    have y0:=setRow_heap JR w.heap.size _ (Qb ((M:Int) != 0) (T:Int) (q0:Int) (q1:Int) (q2:Int) Mn j Mo true (pf:Int) ea (Y2-Y1) ec pa (Y3-Y2) pc ((b.length:Int)-(Y3:Int))) 79 (0,0) K7;have z0:=cell_of y0 0;have z1:=cell_of y0 1;have z2:=cell_of y0 2;have z3:=cell_of y0 3;have z4:=cell_of y0 4;have z5:=cell_of y0 5;have z6:=cell_of y0 6;have z7:=cell_of y0 7;have z8:=cell_of y0 8;have z9:=cell_of y0 9;have qi:=cell_of y0 10;simp only [SE,SD,R8] at z0 z1 z2 z3 z4 z5 z6 z7 z8 z9 qi;refine VD (v:= .tuple (Qo (Qb ((M:Int) != 0) (T:Int) (q0:Int) (q1:Int) (q2:Int) Mn j Mo true (pf:Int) ea (Y2-Y1) ec pa (Y3-Y2) pc ((b.length:Int)-(Y3:Int))) 0)) (by simp [results,Tryz.results125,go_sem,z0,z1,z2,z3,z4,z5,z6,z7,z8,z9,qi]) rfl ⟨⟨_,by rw [HX.o],?_⟩,?_⟩
    ·rw [HX.o];show N0 _ _ (TH b (Y1,Y2,Y3));rw [q9.o,HM.o];refine ⟨.slice Mn j Mo,.slice ea (Y2-Y1) ec,.slice pa (Y3-Y2) pc,rfl,Row.setRow KG.o K7 Zd _,Row.setRow ue.o K7 Zd _,?_⟩;have h:=Row.setRow yU.o K7 Zd (Qb ((M:Int) != 0) (T:Int) (q0:Int) (q1:Int) (q2:Int) Mn j Mo true (pf:Int) ea (Y2-Y1) ec pa (Y3-Y2) pc ((b.length:Int)-(Y3:Int)));rw [show Y3-Y2=PY.length by rw [HPY.o,S4,Rg];omega] at h ⊢;exact h
    ·exact Z3 FZ.o.Zg (Zw _) _
open Go.Proofs.Rm (YF YB Room ZT)
theorem OY {w:World} {g o:Nat} {u:Value} (h:w.cell? ⟨g,o,none⟩=some u) (x:Obj):(w.alloc x).cell? ⟨g,o,none⟩=some u:=by
 rw [World.cell?_of_block (w:=w) ((Z' w x).block g (World.block_lt_of_cell? w ⟨g,o,none⟩ h))];exact h
theorem P9 (k x:Int) (w:World):Calls Tryz.prog 78 (Qz k x) w fun e w'=>(∃ cs:List Value,e = .returned (.agg cs.toArray)∧Yd w' cs (Yb k x))∧Below w w w':=by
 have hb:Below w w ((w.alloc (.cells Xr 100)).setRow w.heap.size (Qm k 0 0 x false 0 0 0 0 none 0 0 false 0 none 0 0 none 0 0 0 0 false false 0 none 0 0 none 0 0 0)):=Z3 (Z' w _) (Zw _) _;have y0:=setRow_heap (w.alloc (.cells Xr 100)) w.heap.size Xr (Qm k 0 0 x false 0 0 0 0 none 0 0 false 0 none 0 0 none 0 0 0 0 false false 0 none 0 0 none 0 0 0) 100 (0,0) (Z8 w _);have hT:∃ cs:List Value,Ending.returned (.agg (Qm k 0 0 x false 0 0 0 0 none 0 0 false 0 none 0 0 none 0 0 0 0 false false 0 none 0 0 none 0 0 0)) = .returned (.agg cs.toArray)∧Yd ((w.alloc (.cells Xr 100)).setRow w.heap.size (Qm k 0 0 x false 0 0 0 0 none 0 0 false 0 none 0 0 none 0 0 0 0 false false 0 none 0 0 none 0 0 0)) cs (Yb k x):=⟨(Qm k 0 0 x false 0 0 0 0 none 0 0 false 0 none 0 0 none 0 0 0 0 false false 0 none 0 0 none 0 0 0),rfl,Yd.refused _ k x⟩;have HT:=Zh hT;clear hT;go_enter Tryz.func78,Tryz.ntmps78;go_wp2_with (with_reducible refine ZU 100 (.tmp 4) (.tmp 8) rfl ?_;refine ZV rfl 100 (.tmp 4) (.tmp 8) rfl rfl w.heap.size (Qm k 0 0 x false 0 0 0 0 none 0 0 false 0 none 0 0 none 0 0 0 0 false false 0 none 0 0 none 0 0 0) rfl rfl 100 Xr (Z8 w _) ZB ZB ZB ?_)
 exact VD (results_cell_row Zr _ _ w.heap.size 100 (Qm k 0 0 x false 0 0 0 0 none 0 0 false 0 none 0 0 none 0 0 0 0 false false 0 none 0 0 none 0 0 0) (0,0) _ Zr y0 Tryz.underlying100 rfl ZB) rfl ⟨HT.o,hb⟩
theorem L3 {B:Nat} {S:Nat→Prop} {a w:World} (h:Fr B S a w) {g:Nat} (hg:B≤g) (c:Array Value):Fr B S a (w.setRow g c):=
 ⟨h.os,h.tape,h.output,by simpa [World.setRow] using h.size,fun k hk hs=>by rw [setRow_other w g k _ Zo];exact h.block k hk hs⟩
theorem ve {cs:Array Value} (h:cs.all (·.oneCell')=true) (i:Nat) {v:Value} (hv:v.oneCell'=true):(cs.setIfInBounds i v).all (·.oneCell')=true:=by
 rw [Array.all_eq_true] at h ⊢;intro j hj;rw [Array.getElem_setIfInBounds];split
 ·exact hv
 ·exact h j (by simpa using hj)
theorem I2 (g:Nat) (c0:Value) (ep:Int) (cs:List Value) (w:World) (hg:w.heap[g]?=some (.cells #[c0,.int .i64 ep] 131 (0,0))) (h0:0≤ep) (h9:ep<1000000000) (Tn:cs.length=22) (h1:cs.toArray.all (·.oneCell')=true) :
  Calls Tryz.prog 79 (Qi (some ⟨g,0,none⟩) cs.toArray) w fun e w'=>e = .returned (.agg ((cs.set 0 (.int .i64 2)).set 2 (.int .i64 (ep+1))).toArray)∧w'.heap[g]?=some (.cells #[c0,.int .i64 (ep+1)] 131 (0,0))∧Fr w (· = g) w w':=by
 have Yn:w.cell? ⟨g,1,none⟩=some (.int .i64 ep):=cell_of hg 1;have Kb:=ZO hg 1;have Bh:=ZW hg;have hw:IntKind.i64.wrap (ep+1)=ep+1:=Tm _ Zo;have hsz':((cs.set 0 (.int .i64 2)).set 2 (.int .i64 (ep+1))).length=22:=by rw [List.length_set,List.length_set,Tn]
 have O_:((cs.set 0 (.int .i64 2)).set 2 (.int .i64 (ep+1))).toArray.all (·.oneCell')=true:=by
  have h:=ve (ve h1 0 (v:= .int .i64 2) rfl) 2 (v:= .int .i64 (ep+1)) rfl;rw [List.setIfInBounds_toArray,List.setIfInBounds_toArray] at h;exact h
 have wC:(w.setCell ⟨g,1,none⟩ (.int .i64 (ep+1))).heap[g]?=some (.cells #[c0,.int .i64 (ep+1)] 131 (0,0)):=VH hg 1 _;have c0':=cell_of wC 1;clear hg h1;go_enter Tryz.func79,Tryz.ntmps79;go_upto_region 2 with fail
 have WK:g≠w.heap.size:=by omega
 refine SX ?_;refine wp_region_held_drew (S:=(fun w'=>w'.cell? ⟨g,1,none⟩=some (.int .i64 (ep+1)))) ZB ?_ (fun Ye=>?_)
 ·(try dsimp only)
  exact OY (OY c0' _) _
 refine YA 0 (h:=YA 1 (h:=YA 2 (h:=YA 3 (h:=YA 4 (h:=YA 5 (h:=?_))))));refine R7 6 (h:=fun K hK=>?_);go_simp;refine hK.out _ _ ?_ (fun XU=>?_)
 ·(try dsimp only)
  exact OY (OY c0' _) _
 clear hK K;try simp only [Z_.pt]
 refine YA 7 (h:=YA 8 (h:=?_));refine R7 9 (h:=fun K hK=>?_);go_simp;refine hK.out _ _ ?_ (fun VG=>?_)
 ·(try dsimp only)
  exact OY (OY c0' _) _
 clear hK K;try simp only [Z_.pt]
 refine wpAnyH_done ZB ?_ _;refine RA ?_;have hfr1:Fr w (· = g) w ((((w.setCell ⟨g,1,none⟩ (.int .i64 (ep+1))).alloc (.cells ((cs.set 0 (.int .i64 2)).set 2 (.int .i64 (ep+1))).toArray 100)).alloc (.cells Xr 100)).drew):=(((Fr.refl w.heap.size (· = g) w).setAt 1 (.int .i64 (ep+1))).alloc (by show w.heap.size≤(w.heap.modify _ _).size;rw [Array.size_modify];exact Zw _) _ |>.alloc (by show w.heap.size≤((w.heap.modify _ _).push _).size;rw [OI,Array.size_modify];exact Ix _) _).drew;have sI:(w.setCell ⟨g,1,none⟩ (.int .i64 (ep+1))).heap.size=w.heap.size:=by show (w.heap.modify _ _).size=_;rw [Array.size_modify]
 have y2:((((w.setCell ⟨g,1,none⟩ (.int .i64 (ep+1))).alloc (.cells ((cs.set 0 (.int .i64 2)).set 2 (.int .i64 (ep+1))).toArray 100)).alloc (.cells Xr 100)).drew).heap[w.heap.size]?=some (.cells ((cs.set 0 (.int .i64 2)).set 2 (.int .i64 (ep+1))).toArray 100 (0,0)):=by
  show (((w.setCell ⟨g,1,none⟩ (.int .i64 (ep+1))).alloc (.cells ((cs.set 0 (.int .i64 2)).set 2 (.int .i64 (ep+1))).toArray 100)).alloc _).heap[w.heap.size]?=_;rw [(Z' _ _).block _ (by show _<((w.setCell _ _).heap.push _).size;rw [OI,sI];exact Nat.lt_succ_self _),←sI];exact Z8 _ _
 have QJ:((((w.setCell ⟨g,1,none⟩ (.int .i64 (ep+1))).alloc (.cells ((cs.set 0 (.int .i64 2)).set 2 (.int .i64 (ep+1))).toArray 100)).alloc (.cells Xr 100)).drew).heap[w.heap.size+1]?=some (.cells Xr 100 (0,0)):=by
  have h:=Z8 ((w.setCell ⟨g,1,none⟩ (.int .i64 (ep+1))).alloc (.cells ((cs.set 0 (.int .i64 2)).set 2 (.int .i64 (ep+1))).toArray 100)) (.cells Xr 100);have e:((w.setCell ⟨g,1,none⟩ (.int .i64 (ep+1))).alloc (.cells ((cs.set 0 (.int .i64 2)).set 2 (.int .i64 (ep+1))).toArray 100)).heap.size=w.heap.size+1:=by show ((w.setCell _ _).heap.push _).size=_;rw [OI,sI]
  rw [e] at h;exact h
 have hgb1:((((w.setCell ⟨g,1,none⟩ (.int .i64 (ep+1))).alloc (.cells ((cs.set 0 (.int .i64 2)).set 2 (.int .i64 (ep+1))).toArray 100)).alloc (.cells Xr 100)).drew).heap[g]?=some (.cells #[c0,.int .i64 (ep+1)] 131 (0,0)):=by
  show (((w.setCell ⟨g,1,none⟩ (.int .i64 (ep+1))).alloc (.cells ((cs.set 0 (.int .i64 2)).set 2 (.int .i64 (ep+1))).toArray 100)).alloc _).heap[g]?=_;rw [(Z' _ _).block _ (by show _<((w.setCell _ _).heap.push _).size;rw [OI,sI];omega),(Z' _ _).block _ (by rw [sI];exact Bh)];exact wC
 clear Ye XU VG c0' wC sI;generalize (((w.setCell ⟨g,1,none⟩ (.int .i64 (ep+1))).alloc (.cells ((cs.set 0 (.int .i64 2)).set 2 (.int .i64 (ep+1))).toArray 100)).alloc (.cells Xr 100)).drew=w2 at *
 have T8:=Zh hfr1;have HGB:=Zh hgb1;clear hfr1 hgb1;generalize hcs2:(cs.set 0 (.int .i64 2)).set 2 (.int .i64 (ep+1))=jD at *
 have HCS2:=Zh hcs2;clear hcs2;have hi:(Tryz.prog.info? 100).map (·.size)=some jD.toArray.size:=by rw [List.size_toArray,hsz'];kernel_rfl
 have hold:(Xr:Array Value).size=jD.toArray.size:=by rw [show jD.toArray.size=22 by rw [List.size_toArray,hsz']];rfl
 have cV:g≠w.heap.size+1:=by omega
 go_wp2_with (first|(with_reducible refine Zj 100 (.tmp 3) rfl ?_;refine Zf rfl 100 (.tmp 3) rfl w.heap.size rfl 100 jD.toArray (0,0) _ y2 Tryz.underlying100 rfl hi ?_)|(with_reducible refine ZU 100 (.tmp 4) (.tmp 20) rfl ?_;refine ZV rfl 100 (.tmp 4) (.tmp 20) rfl rfl (w.heap.size+1) jD.toArray rfl rfl 100 Xr QJ hi hold O_ ?_))
 refine VD (v:= .agg jD.toArray) ?_ rfl ?_
 ·exact results_cell_row Zr _ _ (w.heap.size+1) 100 jD.toArray (0,0) _ Zr (setRow_heap _ _ _ _ _ _ QJ) Tryz.underlying100 rfl hi
 refine ⟨by rw [HCS2.o],?_,?_⟩
 ·rw [(Tq w2 (w.heap.size+1) jD.toArray).block g (ZW HGB.o) cV];exact HGB.o
 ·exact L3 T8.o (Ix _) jD.toArray
end Go.Proofs.By
