/- Part of a proof. -/
import Derived.Test.YtpdjhlcbcomdkaaGreatDoorT0R
set_option linter.unusedVariables false
set_option linter.unusedSimpArgs false
set_option maxRecDepth 100000
set_option maxHeartbeats 16000000
open Go Go.Q Go.Qr Go.Proofs.Tryz
namespace Go.Proofs.By
open Go.RowKit Go.Proofs.Heap
theorem Z0{B:Nat}{a w:World}(h:Below B a w){g:Nat}(hg:B≤g)(c:Array Value):Below B a (w.setRow g c):=
 ⟨h.os,h.tape,h.output,by simpa[World.setRow]using h.size,fun k hk=>by rw[setRow_other w g k _ Zo];exact h.block k hk⟩
theorem ZF{B:Nat}{a w:World}(h:Below B a w)(hB:B≤a.heap.size)(o:Obj):Below B a (w.alloc o):=h.alloc (PX hB h.size) o
theorem Zy{P:Program}{ops:Array Oper}{rest:List Oper}{o:Oper}{a:Act}{w:World}{Q:Exit→Act→World→Prop}(ty:TypeId)(x:Operand)(_:o.op = .load ty x)(h:wpList P ops Q (o :: rest) a w):wpList P ops Q (o :: rest) a w:=h
theorem yR{P:Program}{ops:Array Oper}{rest:List Oper}{o:Oper}{a:Act}{w:World}{Q:Exit→Act→World→Prop}(LH:o.guard=none)(ty:TypeId)(x:Operand)(ho:o.op = .load ty x)
  (g:Nat) (hx:a.eval x = .pointer (some ⟨g,0,none⟩)) (t:TypeId) (cs:Array Value) (fr:Nat×Nat) (d:TypeDesc) (hg:w.heap[g]?=some (.cells cs t fr))
  (hu:P.underlying ty=some d) (hd:(match d with | .struct _ | .array _ _=>true|_=>false)=true) (hi:(P.info? ty).map (·.size)=some cs.size)
  (h:wpList P ops Q rest (a.put o.dst (.agg cs)) w):wpList P ops Q (o :: rest) a w:=wpList_load_row LH ty x ho g hx t cs fr d hg hu hd hi h
theorem rD(l:List Int)(x:Int):YN (l++[x])=YN l++[.int .u32 x]:=by simp[YN]
theorem Oe{w:World}{a a':Option Addr}{c c' l h:Nat}{b:List UInt8}(hh:h≤b.length)(hl:l≤h)(ZW:∀w xs,xs.length=b.length*1→XM w (.slice a b.length c) b.length xs→XM w (.slice a' (h-l) c') (h-l) ((xs.drop (l*1)).take ((h-l)*1)))(hv:X5 w (.slice a b.length c) b):X5 w (.slice a' (h-l) c') ((b.drop l).take (h-l)):=by
 have h1:=ZW w (Rx b) (by rw[Xg,Nat.mul_one]) hv;rw[Nat.mul_one,Nat.mul_one,QA,OH]at h1;have h2:((b.drop l).take (h-l)).length=h-l:=by rw[SY,Ra];omega
 unfold X5;rw[h2];exact h1
theorem rq(v:Value)(b:List UInt8)(w:World)(hv:X5 w v b)(h0:(looks b).2=0) :
  Calls prog 125 #[v] w fun e w'=>(∃a,e = .returned (.tuple #[a,.int .i64 (YM b).2])∧NF w' a (YM b).1)∧Below w w w':=by
 have HX:Hid (YM b=(TD b (looks b).1,0)):=by show _=_;unfold YM;rw[Z3 (by simp[h0])]
 have C:=fun w1 h=>yS v b w1 (hv.below (h:Below w w w1))
 have HC:=Zh C;have HV:Hid (∀w',Below w w w'→X5 w' v b):=fun w' h=>hv.below h
 obtain⟨l12,l512,l1,l2,l3,l4⟩:=mK h0;obtain⟨g,off,c,rfl,RV,yD,WX⟩:=RI hv Zo;clear C hv WX;generalize YM b=X at *
 generalize looks b=Y at *
 obtain⟨⟨Y1,Y2,Y3⟩,Y4⟩:=Y;obtain rfl:Y4=0:=h0;dsimp only at l1 l2 l3 l4 HX HC;have HN:Hid (∀w',Below w w w'→∀p q:Int,Calls prog 153 #[(.slice (some ⟨g,off,none⟩) b.length c),.int .i64 p,.int .i64 q] w' fun e w''=>e = .returned (.int .u64 (get b p q:Nat))∧w'=w''):=fun w' h p q=>uZ _ b p q w' (HV.o w' h)
 have HBY:Hid (∀w',Below w w w'→w'.cell? ⟨g,off,none⟩=some (.int .u8 (at8 b 0:Int))∧w'.cell? ⟨g,off+1,none⟩=some (.int .u8 (at8 b 1:Int))):=fun w' h=>by
  obtain⟨_,_,_,e,_,_,hc⟩:=RI (HV.o w' h) Zo;cases e;exact⟨hc 0 Zo,hc 1 Zo⟩
 have oO:Hid (TD b (Y1,Y2,Y3)=⟨decide (128≤at8 b 1),(at8 b 1%128:Nat),get b 2 2,get b 4 4,get b 8 4,(List.range (at8 b 0%16)).map fun(i:Nat)=>((get b (12+4*(i:Int)) 4:Nat):Int),decide (at8 b 0/16%2=1),if at8 b 0/16%2=1 then(get b ((Y1:Int)-4) 2:Int)else 0,if at8 b 0/16%2=1 then(b.drop Y1).take (Y2-Y1)else[],(b.drop Y2).take (Y3-Y2),(b.length:Int)-(Y3:Int)⟩):=rfl;have P7:=Xj b 0;have SF:=Xj b 1;have a128:=rY (at8 b 1) SF;have a127:=fL (at8 b 1) SF;have Un:=kG (at8 b 0) P7;have T5:=kH (at8 b 0) P7;have b0:get b 2 2<65536:=U7 b 2 2 2 Zd;have b1:get b 4 4<4294967296:=U7 b 4 4 4 Zd;have b2:get b 8 4<4294967296:=U7 b 8 4 4 Zd;have HM:Hid (decide (128≤at8 b 1)=(((at8 b 1/128%2*128:Nat):Int)!=0)):=by show _=_;rw[Bool.eq_iff_iff,Sz,RH];omega
 have hT:at8 b 1%128<128:=Nat.mod_lt _ Zd;have hm:at8 b 0%16<16:=Nat.mod_lt _ Zd;have hE:at8 b 0/16%2<2:=Nat.mod_lt _ Zd;generalize at8 b 1/128%2*128=M at *
 generalize at8 b 1%128=T at *
 generalize at8 b 0%16=m at *
 generalize at8 b 0/16%2=E at *
 have hTw:IntKind.i64.wrap (T:Int)=(T:Int):=Te _ Zo;have hmw:IntKind.i64.wrap (m:Int)=(m:Int):=Te _ Zo;have hLw:IntKind.i64.wrap ((b.length:Int)-(Y3:Int))=(b.length:Int)-(Y3:Int):=Te _ Zo;have hbI:(1:Int)<(b.length:Int):=by omega
 have hbN:1<b.length:=by omega
 have hbI0:(0:Int)<(b.length:Int):=by omega
 have hbN0:0<b.length:=by omega
 have hbZ:¬b.length=0:=by omega
 have hq0w:IntKind.u16.wrap ((get b 2 2:Nat):Int)=((get b 2 2:Nat):Int):=by rw[IntKind.wrap_u16];omega
 have hq1w:IntKind.u32.wrap ((get b 4 4:Nat):Int)=((get b 4 4:Nat):Int):=by rw[Np];omega
 have hq2w:IntKind.u32.wrap ((get b 8 4:Nat):Int)=((get b 8 4:Nat):Int):=by rw[Np];omega
 have BU:=Zh RV;clear b0 b1 b2 P7 SF RV yD;go_enter func125,ntmps125;go_wp2_with fail
 refine(HC.o _ (Z' _ _)).mono ?_;rintro e w2 ⟨rfl,Zb⟩;clear HC;have lV:=Zb.block w AB;rw[Z9]at lV;have TY:w.heap.size+1≤w2.heap.size:=by have h:=Zb.size;have h:(w.heap.push _).size≤w2.heap.size:=h;rw[Ou]at h;exact h
 have hb2':Below w w w2:=(Z' w _).trans (Zb.mono j5);have HRES:Hid ((w2.alloc (.cells (Qn (Y1:Int) (Y2:Int) (Y3:Int)) 238)).heap[w.heap.size]?=some (.cells U2 79)):=((Z' w2 _).block _ Zo).trans lV;have HSHP:Hid ((w2.alloc (.cells (Qn (Y1:Int) (Y2:Int) (Y3:Int)) 238)).heap[w2.heap.size]?=some (.cells (Qn (Y1:Int) (Y2:Int) (Y3:Int)) 238)):=Z9 _ _;have WU:Hid (Below w w (w2.alloc (.cells (Qn (Y1:Int) (Y2:Int) (Y3:Int)) 238))):=ZF hb2' (Zw _) _;have wM:w2.heap.size<(w2.alloc (.cells (Qn (Y1:Int) (Y2:Int) (Y3:Int)) 238)).heap.size:=by show _<(w2.heap.push _).size;rw[Ou];exact Nat.lt_succ_self _
 clear lV Zb hb2';go_wp2_with fail
 generalize w2.alloc (.cells (Qn (Y1:Int) (Y2:Int) (Y3:Int)) 238)=w3 at *
 have GU:w.heap.size<w2.heap.size:=by omega
 clear TY;generalize w2.heap.size=s at *
 clear w2
 have Rv:Hid (∀w',Below w3 w3 w'→w'.cell? ⟨g,off+1,none⟩=some (.int .u8 (at8 b 1:Int))∧w'.cell? ⟨s,2,none⟩=some (.int .i64 (Y3:Int))∧Below w3 w3 w'):=fun w' h=>
  ⟨(HBY.o w' (WU.o.trans (h.mono (by have:=WU.o.size;omega)))).2,Zc ((h.block s wM).trans HSHP.o) 2 rfl,h⟩
 refine R5 ?_;refine wp_region_held_drew (S:=(fun w'=>w'.cell? ⟨g,off+1,none⟩=some (.int .u8 (at8 b 1:Int))∧w'.cell? ⟨s,2,none⟩=some (.int .i64 (Y3:Int))∧Below w3 w3 w')) X_ ?_ (fun X7=>?_)
 ·exact Rv.o _ (YI _ _).drew
 refine YA 0 (h:=YA 1 (h:=YA 2 (h:=YA 3 (h:=YA 4 (h:=YA 5 (h:=YA 6 (h:=YA 7 (h:=YA 8 (h:=YA 9 (h:=YA 10 (h:=YA 11 (h:=YA 12 (h:=YA 13 (h:=YA 14 (h:=YA 15 (h:=?_))))))))))))))));refine R3 16 (h:=fun K hK=>?_);go_simp;refine hK.out _ _ ?_ (fun XC=>?_)
 ·exact cr
 clear hK K;try simp only[Z_.pt]
 refine R3 17 (h:=fun K hK=>?_);refine Sl Zr 79 (.tmp 6) (.tmp 32) Zr Zr w3 (Qc ((M:Int)!=0) (T:Int) 0 0 0 none 0 0 false 0 none 0 0 none 0 0 ((b.length:Int)-(Y3:Int))) Zr Zr 79 _ (Z9 w3.drew _) X_ X_ X_ ?_;refine hK.out _ _ ?_ (fun Vz=>?_)
 ·exact cr
 clear hK K;try simp only[Z_.pt]
 refine wpAnyH_done X_ ?_ _;refine QZ ?_
 have E2:Hid (PK w ((w3.alloc (.cells U2 79)).drew.setRow w3 (Qc ((M:Int)!=0) (T:Int) 0 0 0 none 0 0 false 0 none 0 0 none 0 0 ((b.length:Int)-(Y3:Int)))) s w3 (Qn (Y1:Int) (Y2:Int) (Y3:Int)) (Qc ((M:Int)!=0) (T:Int) 0 0 0 none 0 0 false 0 none 0 0 none 0 0 ((b.length:Int)-(Y3:Int)))):=
  (PK.mk (cs:=Yz3) (ZF WU.o.drew (Zw _) _) (((Z' w3.drew _).block _ (show w.heap.size<w3.heap.size by omega)).trans HRES.o) (((Z' w3.drew _).block _ wM).trans HSHP.o) (Z9 w3.drew _) ⟨GU,wM⟩).row (Qc ((M:Int)!=0) (T:Int) 0 0 0 none 0 0 false 0 none 0 0 none 0 0 ((b.length:Int)-(Y3:Int)))
 clear Rv HRES HSHP WU X7 XC Vz;generalize(w3.alloc (.cells U2 79)).drew.setRow w3 (Qc ((M:Int)!=0) (T:Int) 0 0 0 none 0 0 false 0 none 0 0 none 0 0 ((b.length:Int)-(Y3:Int)))=w5 at *
 have hs4:s<w3.heap.size:=wM;clear wM;generalize w3.heap.size=p at *
 clear w3;have P5:=Zh E2.o.Zf;have u2:w5.cell? ⟨p,2,none⟩=some (.int .u16 0):=E2.o.cell 2;have u3:w5.cell? ⟨p,3,none⟩=some (.int .u32 0):=E2.o.cell 3;have u4:w5.cell? ⟨p,4,none⟩=some (.int .u32 0):=E2.o.cell 4;have f2:=E2.o.frozen 2;have f3:=E2.o.frozen 3;have f4:=E2.o.frozen 4;go_upto_region 6 with(go_at_call 153;refine(HN.o _ P5.o _ _).mono ?_;rintro e w' ⟨rfl,rfl⟩)
 have HPK6:Hid (PK w (((w5.setCell ⟨p,2,none⟩ (.int .u16 ((get b 2 2:Nat):Int))).setCell ⟨p,3,none⟩ (.int .u32 ((get b 4 4:Nat):Int))).setCell ⟨p,4,none⟩ (.int .u32 ((get b 8 4:Nat):Int))) s p (Qn (Y1:Int) (Y2:Int) (Y3:Int)) (Qc ((M:Int)!=0) (T:Int) ((get b 2 2:Nat):Int) ((get b 4 4:Nat):Int) ((get b 8 4:Nat):Int) none 0 0 false 0 none 0 0 none 0 0 ((b.length:Int)-(Y3:Int)))):=((E2.o.set 2 (.int .u16 ((get b 2 2:Nat):Int))).set 3 (.int .u32 ((get b 4 4:Nat):Int))).set 4 (.int .u32 ((get b 8 4:Nat):Int));clear E2 P5 u2 u3 u4 f2 f3 f4;generalize((w5.setCell ⟨p,2,none⟩ (.int .u16 ((get b 2 2:Nat):Int))).setCell ⟨p,3,none⟩ (.int .u32 ((get b 4 4:Nat):Int))).setCell ⟨p,4,none⟩ (.int .u32 ((get b 8 4:Nat):Int))=w6 at *
 clear w5 hq0w hq1w hq2w hTw hLw;generalize hg0:get b 2 2=q0 at *
 generalize hg1:get b 4 4=q1 at *
 generalize lG:get b 8 4=q2 at *
 have HG0:=Zh hg0;have Ot:=Zh hg1;have JY:=Zh lG;clear hg0 hg1 lG;obtain⟨d0,d1⟩:=HBY.o _ HPK6.o.Zf;clear d1;go_upto_region 7 with fail
 have HPL0:Hid (PL w w6 s p (Qn (Y1:Int) (Y2:Int) (Y3:Int)) (Qc ((M:Int)!=0) (T:Int) (q0:Int) (q1:Int) (q2:Int) none 0 0 false 0 none 0 0 none 0 0 ((b.length:Int)-(Y3:Int))) (.slice none 0 0) 0 (YN ((List.range 0).map fun(i:Nat)=>((get b (12+4*(i:Int)) 4:Nat):Int)))):=⟨HPK6.o,TV _ _ _ _⟩;clear HPK6 d0;go_loopw [50] (fun i w'=>∃(j:Nat) (cv:Value),j≤m∧i = .int .i64 (j:Int)∧PL w w' s p (Qn (Y1:Int) (Y2:Int) (Y3:Int)) [.bool ((M:Int)!=0),.int .i64 (T:Int),.int .u16 (q0:Int),.int .u32 (q1:Int),.int .u32 (q2:Int),cv,.bool false,.int .u16 0,.slice none 0 0,.slice none 0 0,.int .i64 ((b.length:Int)-(Y3:Int))] cv j (YN ((List.range j).map fun(i:Nat)=>((get b (12+4*(i:Int)) 4:Nat):Int)))) (fun i _=>m-(intOf i).toNat)
 case atStart=>exact⟨0,_,TH _,rfl,HPL0.o⟩
 case round=>
  clear HPL0;obtain⟨j,cv,hj,rfl,lT⟩:=hrel;obtain⟨JR,JS,rfl,-,-⟩:=Row.Z4 lT.own;have tK:=Zh lT;clear lT;by_cases yB:j<m
  ·have eN:Hid (PL w wr.drew s p (Qn (Y1:Int) (Y2:Int) (Y3:Int)) (Qc ((M:Int)!=0) (T:Int) (q0:Int) (q1:Int) (q2:Int) JR j JS false 0 none 0 0 none 0 0 ((b.length:Int)-(Y3:Int))) (.slice JR j JS) j (YN ((List.range j).map fun(i:Nat)=>((get b (12+4*(i:Int)) 4:Nat):Int)))):=⟨tK.o.pk.drew,tK.o.own⟩;have c5:wr.cell? ⟨p,5,none⟩=some (.slice JR j JS):=tK.o.pk.cell 5;have lT:p<wr.heap.size:=tK.o.pk.qD;have C9:=Zh (HN.o wr.drew eN.o.pk.Zf (12+4*(j:Int)) 4);have yH:get b (12+4*(j:Int)) 4<4294967296:=U7 b _ 4 4 Zd;obtain⟨xs,GY⟩:∃xs,xs=YN ((List.range j).map fun(i:Nat)=>((get b (12+4*(i:Int)) 4:Nat):Int)):=⟨_,rfl⟩;rw[←GY]at tK eN;have HXS:=Zh GY;clear GY;generalize qw:get b (12+4*(j:Int)) 4=x at *
   have BZ:=Zh qw;clear qw;have Hr:Hid (PL w (wr.alloc (.cells #[.int .u32 (x:Int)] 66)).drew s p (Qn (Y1:Int) (Y2:Int) (Y3:Int)) (Qc ((M:Int)!=0) (T:Int) (q0:Int) (q1:Int) (q2:Int) JR j JS false 0 none 0 0 none 0 0 ((b.length:Int)-(Y3:Int))) (.slice JR j JS) j xs):=⟨tK.o.pk.below (Z' _ _).drew,Yv tK.o.own (Z' _ _).drew⟩;have iX:IntKind.i64.wrap (4*(j:Int))=4*(j:Int):=Te _ Zo;have hw2:IntKind.i64.wrap (12+4*(j:Int))=12+4*(j:Int):=Te _ Zo;have hxw:IntKind.u32.wrap (x:Int)=(x:Int):=by rw[Np];omega
   go_upto_region 9 with fail
   refine R5 ?_;refine wp_region_held_drew (S:=(fun w'=>Below w w w')) X_ ?_ (fun X7=>?_)
   ·exact eN.o.pk.Zf
   refine YA 0 (h:=YA 2 (h:=YA 3 (h:=YA 4 (h:=YA 5 (h:=?_)))));refine wpAnyH_ready (rs:=[1,6]) X_ Zi ?_;refine AllReadyH.cons (i:=1) rfl (fun K hK=>?_) ?_
   ·skip
    go_simp;refine hK.out _ _ ?_ (fun XC=>?_)
    ·exact rV
    clear hK K;try simp only[Z_.pt]
    refine R3 6 (h:=fun K hK=>?_);go_simp;refine C9.o.mono ?_;rintro e w' ⟨rfl,rfl⟩;go_wp2_with fail
    refine hK.out _ _ ?_ (fun Vz=>?_)
    ·exact rV
    clear hK K;try simp only[Z_.pt]
    refine YA 7 (h:=?_);refine R3 8 (h:=fun K hK=>?_);go_simp;refine hK.out _ _ ?_ (fun N1=>?_)
    ·exact rV
    clear hK K;try simp only[Z_.pt]
    refine R3 9 (h:=fun K hK=>?_);refine Ze Zr (.tmp 54) (.tmp 61) 29 Zr (p+1) Vo (.slice JR j JS) j xs Zr Hr.o.own (.slice (some ⟨wr,0,none⟩) 1 1) 1 [.int .u32 (x:Int)] Zr (VA wr 66 1 [.int .u32 (x:Int)] Zd) rfl (by intro u hu;simp at hu;subst hu;rfl) Zo Zo (by show _≤(wr.heap.push _).size;rw[Ou];omega) ?_;intro v' w5 HO HG;obtain⟨va,vc,mn,-,-⟩:=Row.Z4 HO.o;subst mn;have nW:=Zh (Hr.o.grown HG.o);have c55:w5.cell? ⟨p,5,none⟩=some (.slice JR j JS):=nW.o.cell 5;have f55:=nW.o.frozen 5;refine hK.out _ _ ?_ (fun I5=>?_)
    ·exact rV
    clear hK K;try simp only[Z_.pt]
    refine YA 10 (h:=?_);refine R3 11 (h:=fun K hK=>?_);go_simp;have HP6:=Zh (nW.o.set 5 (.slice va (j+1) vc));have Hq:=Zh (U_ HO.o (b:=p) (o:=5) (Nat.lt_succ_self _) (.slice va (j+1) vc));refine hK.out _ _ ?_ (fun I6=>?_)
    ·exact rV
    exact Yx58
   refine AllReadyH.cons (i:=6) rfl (fun K hK=>?_) AllReadyH.nil;go_simp;refine C9.o.mono ?_;rintro e w' ⟨rfl,rfl⟩;go_wp2_with fail
   refine hK.out _ _ ?_ (fun ux=>?_)
   ·exact rV
   clear hK K;try simp only[Z_.pt]
   refine YA 7 (h:=?_);refine wpAnyH_ready (rs:=[1,8]) X_ Zi ?_;refine AllReadyH.cons (i:=1) rfl (fun K hK=>?_) ?_
   ·skip
    go_simp;refine hK.out _ _ ?_ (fun hHeld7=>?_)
    ·exact rV
    clear hK K;try simp only[Z_.pt]
    refine R3 8 (h:=fun K hK=>?_);go_simp;refine hK.out _ _ ?_ (fun hHeld8=>?_)
    ·exact rV
    clear hK K;try simp only[Z_.pt]
    refine R3 9 (h:=fun K hK=>?_);refine Ze Zr (.tmp 54) (.tmp 61) 29 Zr (p+1) Vo (.slice JR j JS) j xs Zr Hr.o.own (.slice (some ⟨wr,0,none⟩) 1 1) 1 [.int .u32 (x:Int)] Zr (VA wr 66 1 [.int .u32 (x:Int)] Zd) rfl (by intro u hu;simp at hu;subst hu;rfl) Zo Zo (by show _≤(wr.heap.push _).size;rw[Ou];omega) ?_;intro v' w5 HO HG;obtain⟨va,vc,mn,-,-⟩:=Row.Z4 HO.o;subst mn;have nW:=Zh (Hr.o.grown HG.o);have c55:w5.cell? ⟨p,5,none⟩=some (.slice JR j JS):=nW.o.cell 5;have f55:=nW.o.frozen 5;refine hK.out _ _ ?_ (fun hHeld9=>?_)
    ·exact rV
    clear hK K;try simp only[Z_.pt]
    refine YA 10 (h:=?_);refine R3 11 (h:=fun K hK=>?_);go_simp;have HP6:=Zh (nW.o.set 5 (.slice va (j+1) vc));have Hq:=Zh (U_ HO.o (b:=p) (o:=5) (Nat.lt_succ_self _) (.slice va (j+1) vc));refine hK.out _ _ ?_ (fun A5=>?_)
    ·exact rV
    exact Yx58
   refine AllReadyH.cons (i:=8) rfl (fun K hK=>?_) AllReadyH.nil;go_simp;refine hK.out _ _ ?_ (fun A6=>?_)
   ·exact rV
   clear hK K;try simp only[Z_.pt]
   refine R3 1 (h:=fun K hK=>?_);go_simp;refine hK.out _ _ ?_ (fun A7=>?_)
   ·exact rV
   clear hK K;try simp only[Z_.pt]
   refine R3 9 (h:=fun K hK=>?_);refine Ze Zr (.tmp 54) (.tmp 61) 29 Zr (p+1) Vo (.slice JR j JS) j xs Zr Hr.o.own (.slice (some ⟨wr,0,none⟩) 1 1) 1 [.int .u32 (x:Int)] Zr (VA wr 66 1 [.int .u32 (x:Int)] Zd) rfl (by intro u hu;simp at hu;subst hu;rfl) Zo Zo (by show _≤(wr.heap.push _).size;rw[Ou];omega) ?_;intro v' w5 HO HG;obtain⟨va,vc,mn,-,-⟩:=Row.Z4 HO.o;subst mn;have nW:=Zh (Hr.o.grown HG.o);have c55:w5.cell? ⟨p,5,none⟩=some (.slice JR j JS):=nW.o.cell 5;have f55:=nW.o.frozen 5;refine hK.out _ _ ?_ (fun A8=>?_)
   ·exact rV
   clear hK K;try simp only[Z_.pt]
   refine YA 10 (h:=?_);refine R3 11 (h:=fun K hK=>?_);go_simp;have HP6:=Zh (nW.o.set 5 (.slice va (j+1) vc));have Hq:=Zh (U_ HO.o (b:=p) (o:=5) (Nat.lt_succ_self _) (.slice va (j+1) vc));refine hK.out _ _ ?_ (fun sf=>?_)
   ·exact rV
   exact Yx58
  ·obtain rfl:j=m:=by omega
   obtain⟨CL,hCL⟩:∃CL,CL=(List.range j).map fun(i:Nat)=>((get b (12+4*(i:Int)) 4:Nat):Int):=⟨_,rfl⟩
   have LG:CL.length=j:=by rw[hCL,Tx,List.length_range]
   rw[←hCL]at tK oO;have Hd:Hid (PR w wr s p (Qn (Y1:Int) (Y2:Int) (Y3:Int)) (Qc ((M:Int)!=0) (T:Int) (q0:Int) (q1:Int) (q2:Int) JR j JS false 0 none 0 0 none 0 0 ((b.length:Int)-(Y3:Int))) (.slice JR j JS) (.slice none 0 0) (.slice none 0 0) CL [] []):=⟨tK.o.pk,by rw[LG];exact Row.Z4 tK.o.own,Row.nil _ _,Row.nil _ _⟩;have HCLE:=Zh LG;clear tK hCL LG yB hj;obtain⟨d0,d1⟩:=HBY.o _ Hd.o.pk.Zf;clear d1;have dL:p<wr.heap.size:=Hd.o.pk.qD;obtain hE0|hE1:E=0∨E=1:=by omega
   ·subst hE0;rw[Nat.zero_mul]at T5;go_upto_region 13 with fail
    have sc1:wr.cell? ⟨s,1,none⟩=some (.int .i64 (Y2:Int)):=Hd.o.pk.QT 1;have sc2:wr.cell? ⟨s,2,none⟩=some (.int .i64 (Y3:Int)):=Hd.o.pk.QT 2;obtain⟨a',Us,ZW⟩:=Wc (P:=prog) VG (some ⟨g,off,none⟩) b.length c Y2 Y3 l3 l4 BU.o;have lU:((b.drop Y2).take (Y3-Y2)).length=Y3-Y2:=by rw[SY,Ra];omega
    have rK:=Zh (Lj _ ((b.drop Y2).take (Y3-Y2)) wr (Oe l4 l3 ZW (HV.o _ Hd.o.pk.Zf)) (by rw[lU];omega));rw[lU]at rK;clear ZW lU;obtain⟨PY,hPY⟩:∃PY,PY=(b.drop Y2).take (Y3-Y2):=⟨_,rfl⟩;rw[←hPY]at rK oO;have HPY:=Zh hPY;clear hPY;go_upto_region 14 with(go_at_call 154;refine rK.o.mono ?_;rintro e Sm ⟨⟨pv,rfl,ql⟩,MU⟩;obtain⟨pa,pc,My,-,-⟩:=id ql;subst My;have S0:=Zh (Hd.o.below MU);have jN:=Zh ql;clear ql MU;have c9:Sm.cell? ⟨p,9,none⟩=some (.slice none 0 0):=S0.o.pk.cell 9;have f9:=S0.o.pk.frozen 9)
    have E2:Hid (PK w (Sm.setCell ⟨p,9,none⟩ (.slice pa (Y3-Y2) pc)) s p (Qn (Y1:Int) (Y2:Int) (Y3:Int)) (Qc ((M:Int)!=0) (T:Int) (q0:Int) (q1:Int) (q2:Int) JR j JS false 0 none 0 0 pa (Y3-Y2) pc ((b.length:Int)-(Y3:Int)))):=S0.o.pk.set 9 (.slice pa (Y3-Y2) pc);have JZ:=Zh (S0.o.csr.setCell (p:=⟨p,9,none⟩) S0.o.pk.Y8 Zd (.slice pa (Y3-Y2) pc));have rP:=Zh (S0.o.exr.setCell (p:=⟨p,9,none⟩) S0.o.pk.Y8 Zd (.slice pa (Y3-Y2) pc));have xu:=Zh (jN.o.setCell (p:=⟨p,9,none⟩) S0.o.pk.Y8 Zd (.slice pa (Y3-Y2) pc));clear Hd S0 jN rK c9 f9 sc1 sc2 Us;generalize Sm.setCell ⟨p,9,none⟩ (.slice pa (Y3-Y2) pc)=EH at *
    clear Sm;have OS:EH.heap[p]?=some (.cells (Qc ((M:Int)!=0) (T:Int) (q0:Int) (q1:Int) (q2:Int) JR j JS false 0 none 0 0 pa (Y3-Y2) pc ((b.length:Int)-(Y3:Int))) 79 (0,0)):=E2.o.Y8;have Kv:EH.heap[w.heap.size]?=some (.cells U2 79 (0,0)):=E2.o.res;go_wp2_with (first|(with_reducible refine Zl OS underlying79 ?_)|(with_reducible refine Zs Kv ?_))
    have y0:=setRow_heap EH w _ (Qc ((M:Int)!=0) (T:Int) (q0:Int) (q1:Int) (q2:Int) JR j JS false 0 none 0 0 pa (Y3-Y2) pc ((b.length:Int)-(Y3:Int))) 79 (0,0) Kv;have z0:=cell_of y0 0;have z1:=cell_of y0 1;have z2:=cell_of y0 2;have z3:=cell_of y0 3;have z4:=cell_of y0 4;have z5:=cell_of y0 5;have z6:=cell_of y0 6;have z7:=cell_of y0 7;have z8:=cell_of y0 8;have z9:=cell_of y0 9;have nO:=cell_of y0 10;simp only[SN,Sy,R4]at z0 z1 z2 z3 z4 z5 z6 z7 z8 z9 nO;refine VD (v:= .tuple (Qo (Qc ((M:Int)!=0) (T:Int) (q0:Int) (q1:Int) (q2:Int) JR j JS false 0 none 0 0 pa (Y3-Y2) pc ((b.length:Int)-(Y3:Int))) 0)) (by simp[results,results125,go_sem,z0,z1,z2,z3,z4,z5,z6,z7,z8,z9,nO]) rfl ⟨⟨_,by rw[HX.o],?_⟩,?_⟩
    ·rw[HX.o];show NF _ _ (TD b (Y1,Y2,Y3));rw[oO.o,HM.o];refine⟨.slice JR j JS,.slice none 0 0,.slice pa (Y3-Y2) pc,rfl,Row.setRow JZ.o Kv Zd _,Row.setRow rP.o Kv Zd _,?_⟩;have h:=Row.setRow xu.o Kv Zd (Qc ((M:Int)!=0) (T:Int) (q0:Int) (q1:Int) (q2:Int) JR j JS false 0 none 0 0 pa (Y3-Y2) pc ((b.length:Int)-(Y3:Int)));rw[show Y3-Y2=PY.length by rw[HPY.o,SY,Ra];omega]at h ⊢;exact h
    ·exact Z0 E2.o.Zf (Zw _) _
   ·subst hE1;rw[Nat.one_mul]at T5;go_upto_region 12 with fail
    have sc0:wr.cell? ⟨s,0,none⟩=some (.int .i64 (Y1:Int)):=Hd.o.pk.QT 0;have tN:Hid (∀w',Below wr wr w'→w'.cell? ⟨s,0,none⟩=some (.int .i64 (Y1:Int))∧w'.cell? ⟨s,1,none⟩=some (.int .i64 (Y2:Int))∧Below w w w'):=fun w' h=>⟨(Hd.o.below h).pk.QT 0,(Hd.o.below h).pk.QT 1,(Hd.o.below h).pk.Zf⟩
    obtain⟨a',Us,ZW⟩:=Wc (P:=prog) VG (some ⟨g,off,none⟩) b.length c Y1 Y2 l2 Zo BU.o;have lU:((b.drop Y1).take (Y2-Y1)).length=Y2-Y1:=by rw[SY,Ra];omega
    have rK:=Zh (Lj _ ((b.drop Y1).take (Y2-Y1)) wr.drew (Oe Zo l2 ZW (HV.o _ Hd.o.pk.Zf.drew)) (by rw[lU];omega));rw[lU]at rK;clear ZW lU d0 sc0;obtain⟨ES,hES⟩:∃ES,ES=(b.drop Y1).take (Y2-Y1):=⟨_,rfl⟩;have cR:ES.length=Y2-Y1:=by rw[hES,SY,Ra];omega
    rw[←hES]at rK oO;have HEL:=Zh cR;clear hES cR;have hw4:IntKind.i64.wrap ((Y1:Int)-4)=(Y1:Int)-4:=Te _ Zo;have Db:get b ((Y1:Int)-4) 2<65536:=U7 b _ 2 2 Zd;have CNP:=Zh (HN.o wr.drew Hd.o.pk.Zf.drew ((Y1:Int)-4) 2);generalize get b ((Y1:Int)-4) 2=pf at *
    have hpw:IntKind.u16.wrap (pf:Int)=(pf:Int):=by rw[IntKind.wrap_u16];omega
    clear Db;refine R5 ?_;refine wp_region_held_drew (S:=(fun w'=>w'.cell? ⟨s,0,none⟩=some (.int .i64 (Y1:Int))∧w'.cell? ⟨s,1,none⟩=some (.int .i64 (Y2:Int))∧Below w w w')) X_ ?_ (fun X7=>?_)
    ·exact tN.o _ (YI _ _).drew
    refine YA 0 (h:=YA 1 (h:=YA 2 (h:=YA 3 (h:=YA 6 (h:=YA 7 (h:=YA 8 (h:=YA 9 (h:=YA 10 (h:=YA 11 (h:=YA 13 (h:=?_)))))))))));refine R3 4 (h:=fun K hK=>?_);go_simp;refine CNP.o.mono ?_;rintro e w' ⟨rfl,rfl⟩;go_wp2_with fail
    refine hK.out _ _ ?_ (fun XC=>?_)
    ·exact ku
    clear hK K;try simp only[Z_.pt]
    refine YA 5 (h:=?_);refine R3 12 (h:=fun K hK=>?_);go_simp;refine rK.o.mono ?_;rintro e w8 ⟨⟨ev,rfl,RM⟩,gF⟩;obtain⟨ea,ec,Kt,-,-⟩:=id RM;subst Kt;go_wp2_with fail
    have IJ:=Zh ((Hd.o.drew).below gF);have HER:=Zh RM;clear RM;have v6:w8.cell? ⟨p,6,none⟩=some (.bool false):=IJ.o.pk.cell 6;have v7:w8.cell? ⟨p,7,none⟩=some (.int .u16 0):=IJ.o.pk.cell 7;have v8:w8.cell? ⟨p,8,none⟩=some (.slice none 0 0):=IJ.o.pk.cell 8;have g6:=IJ.o.pk.frozen 6;have g7:=IJ.o.pk.frozen 7;have g8:=IJ.o.pk.frozen 8;have hp8:p<w8.heap.size:=IJ.o.pk.qD;have k0:=IJ.o.pk.QT 0;have k1:=IJ.o.pk.QT 1;refine hK.out _ _ ?_ (fun Vz=>?_)
    ·exact ku
    clear hK K;try simp only[Z_.pt]
    refine R3 14 (h:=fun K hK=>?_);go_simp;have T9:=Zh (IJ.o.set 6 (.bool true));refine hK.out _ _ ?_ (fun N1=>?_)
    ·exact ku
    clear hK K;try simp only[Z_.pt]
    refine YA 15 (h:=?_);refine R3 16 (h:=fun K hK=>?_);go_simp;have Po:=Zh (T9.o.set 7 (.int .u16 (pf:Int)));refine hK.out _ _ ?_ (fun I5=>?_)
    ·exact ku
    clear hK K;try simp only[Z_.pt]
    refine YA 17 (h:=?_);refine R3 18 (h:=fun K hK=>?_);go_simp;have eO:=Zh (Po.o.set 8 (.slice ea (Y2-Y1) ec));refine hK.out _ _ ?_ (fun I6=>?_)
    ·exact ku
    clear hK K;try simp only[Z_.pt]
    refine wpAnyH_done X_ ?_ _;refine QZ ?_;have HER3:=Zh (((HER.o.setCell (p:=⟨p,6,none⟩) IJ.o.pk.Y8 Zd (.bool true)).setCell (p:=⟨p,7,none⟩) T9.o.pk.Y8 Zd (.int .u16 (pf:Int))).setCell (p:=⟨p,8,none⟩) Po.o.pk.Y8 Zd (.slice ea (Y2-Y1) ec));have HPRE:Hid (PR w (((w8.setCell ⟨p,6,none⟩ (.bool true)).setCell ⟨p,7,none⟩ (.int .u16 (pf:Int))).setCell ⟨p,8,none⟩ (.slice ea (Y2-Y1) ec)) s p (Qn (Y1:Int) (Y2:Int) (Y3:Int)) (Qc ((M:Int)!=0) (T:Int) (q0:Int) (q1:Int) (q2:Int) JR j JS true (pf:Int) ea (Y2-Y1) ec none 0 0 ((b.length:Int)-(Y3:Int))) (.slice JR j JS) (.slice ea (Y2-Y1) ec) (.slice none 0 0) CL ES []):=⟨eO.o.pk,eO.o.csr,by rw[HEL.o];exact HER3.o,Row.nil _ _⟩;clear IJ T9 Po eO HER HER3 v6 v7 v8 g6 g7 g8 hp8 k0 k1 tN Hd CNP rK Us hw4 hpw dL X7 XC Vz N1 I5 I6 gF;generalize((w8.setCell ⟨p,6,none⟩ (.bool true)).setCell ⟨p,7,none⟩ (.int .u16 (pf:Int))).setCell ⟨p,8,none⟩ (.slice ea (Y2-Y1) ec)=w9 at *
    clear w8;have Hd:=HPRE;clear HPRE;obtain⟨d0,-⟩:=HBY.o _ Hd.o.pk.Zf;have dL:p<w9.heap.size:=Hd.o.pk.qD;go_upto_region 13 with fail
    have sc1:w9.cell? ⟨s,1,none⟩=some (.int .i64 (Y2:Int)):=Hd.o.pk.QT 1;have sc2:w9.cell? ⟨s,2,none⟩=some (.int .i64 (Y3:Int)):=Hd.o.pk.QT 2;obtain⟨a',Us,ZW⟩:=Wc (P:=prog) VG (some ⟨g,off,none⟩) b.length c Y2 Y3 l3 l4 BU.o;have lU:((b.drop Y2).take (Y3-Y2)).length=Y3-Y2:=by rw[SY,Ra];omega
    have rK:=Zh (Lj _ ((b.drop Y2).take (Y3-Y2)) w9 (Oe l4 l3 ZW (HV.o _ Hd.o.pk.Zf)) (by rw[lU];omega));rw[lU]at rK;clear ZW lU;obtain⟨PY,hPY⟩:∃PY,PY=(b.drop Y2).take (Y3-Y2):=⟨_,rfl⟩;rw[←hPY]at rK oO;have HPY:=Zh hPY;clear hPY;go_upto_region 14 with(go_at_call 154;refine rK.o.mono ?_;rintro e Sm ⟨⟨pv,rfl,ql⟩,MU⟩;obtain⟨pa,pc,My,-,-⟩:=id ql;subst My;have S0:=Zh (Hd.o.below MU);have jN:=Zh ql;clear ql MU;have c9:Sm.cell? ⟨p,9,none⟩=some (.slice none 0 0):=S0.o.pk.cell 9;have f9:=S0.o.pk.frozen 9)
    have E2:Hid (PK w (Sm.setCell ⟨p,9,none⟩ (.slice pa (Y3-Y2) pc)) s p (Qn (Y1:Int) (Y2:Int) (Y3:Int)) (Qc ((M:Int)!=0) (T:Int) (q0:Int) (q1:Int) (q2:Int) JR j JS true (pf:Int) ea (Y2-Y1) ec pa (Y3-Y2) pc ((b.length:Int)-(Y3:Int)))):=S0.o.pk.set 9 (.slice pa (Y3-Y2) pc);have JZ:=Zh (S0.o.csr.setCell (p:=⟨p,9,none⟩) S0.o.pk.Y8 Zd (.slice pa (Y3-Y2) pc));have rP:=Zh (S0.o.exr.setCell (p:=⟨p,9,none⟩) S0.o.pk.Y8 Zd (.slice pa (Y3-Y2) pc));have xu:=Zh (jN.o.setCell (p:=⟨p,9,none⟩) S0.o.pk.Y8 Zd (.slice pa (Y3-Y2) pc));clear Hd S0 jN rK c9 f9 sc1 sc2 Us;generalize Sm.setCell ⟨p,9,none⟩ (.slice pa (Y3-Y2) pc)=EH at *
    clear Sm;have OS:EH.heap[p]?=some (.cells (Qc ((M:Int)!=0) (T:Int) (q0:Int) (q1:Int) (q2:Int) JR j JS true (pf:Int) ea (Y2-Y1) ec pa (Y3-Y2) pc ((b.length:Int)-(Y3:Int))) 79 (0,0)):=E2.o.Y8;have Kv:EH.heap[w.heap.size]?=some (.cells U2 79 (0,0)):=E2.o.res;go_wp2_with (first|(with_reducible refine Zl OS underlying79 ?_)|(with_reducible refine Zs Kv ?_))
    have y0:=setRow_heap EH w _ (Qc ((M:Int)!=0) (T:Int) (q0:Int) (q1:Int) (q2:Int) JR j JS true (pf:Int) ea (Y2-Y1) ec pa (Y3-Y2) pc ((b.length:Int)-(Y3:Int))) 79 (0,0) Kv;have z0:=cell_of y0 0;have z1:=cell_of y0 1;have z2:=cell_of y0 2;have z3:=cell_of y0 3;have z4:=cell_of y0 4;have z5:=cell_of y0 5;have z6:=cell_of y0 6;have z7:=cell_of y0 7;have z8:=cell_of y0 8;have z9:=cell_of y0 9;have nO:=cell_of y0 10;simp only[SN,Sy,R4]at z0 z1 z2 z3 z4 z5 z6 z7 z8 z9 nO;refine VD (v:= .tuple (Qo (Qc ((M:Int)!=0) (T:Int) (q0:Int) (q1:Int) (q2:Int) JR j JS true (pf:Int) ea (Y2-Y1) ec pa (Y3-Y2) pc ((b.length:Int)-(Y3:Int))) 0)) (by simp[results,results125,go_sem,z0,z1,z2,z3,z4,z5,z6,z7,z8,z9,nO]) rfl ⟨⟨_,by rw[HX.o],?_⟩,?_⟩
    ·rw[HX.o];show NF _ _ (TD b (Y1,Y2,Y3));rw[oO.o,HM.o];refine⟨.slice JR j JS,.slice ea (Y2-Y1) ec,.slice pa (Y3-Y2) pc,rfl,Row.setRow JZ.o Kv Zd _,Row.setRow rP.o Kv Zd _,?_⟩;have h:=Row.setRow xu.o Kv Zd (Qc ((M:Int)!=0) (T:Int) (q0:Int) (q1:Int) (q2:Int) JR j JS true (pf:Int) ea (Y2-Y1) ec pa (Y3-Y2) pc ((b.length:Int)-(Y3:Int)));rw[show Y3-Y2=PY.length by rw[HPY.o,SY,Ra];omega]at h ⊢;exact h
    ·exact Z0 E2.o.Zf (Zw _) _
open Go.Proofs.Rm (YD YF Room ZR)
theorem OI{w:World}{g o:Nat}{u:Value}(h:w.cell? ⟨g,o,none⟩=some u)(x:Obj):(w.alloc x).cell? ⟨g,o,none⟩=some u:=by
 rw[World.cell?_of_block (w:=w) ((Z' w x).block g (World.block_lt_of_cell? w ⟨g,o,none⟩ h))];exact h
theorem PO(k x:Int)(w:World):Calls prog 78 (Q4 k x) w fun e w'=>(∃cs:List Value,e = .returned (.agg cs.toArray)∧Ye w' cs (Yi k x))∧Below w w w':=by
 have hb:Below w w ((w.alloc (.cells Xf 100)).setRow w (Qm k 0 0 x false 0 0 0 0 none 0 0 false 0 none 0 0 none 0 0 0 0 false false 0 none 0 0 none 0 0 0)):=Z0 (Z' w _) (Zw _) _;have y0:=setRow_heap (w.alloc (.cells Xf 100)) w Xf (Qm k 0 0 x false 0 0 0 0 none 0 0 false 0 none 0 0 none 0 0 0 0 false false 0 none 0 0 none 0 0 0) 100 (0,0) (Z9 w _);have hT:∃cs:List Value,Ending.returned (.agg (Qm k 0 0 x false 0 0 0 0 none 0 0 false 0 none 0 0 none 0 0 0 0 false false 0 none 0 0 none 0 0 0)) = .returned (.agg cs.toArray)∧Ye ((w.alloc (.cells Xf 100)).setRow w (Qm k 0 0 x false 0 0 0 0 none 0 0 false 0 none 0 0 none 0 0 0 0 false false 0 none 0 0 none 0 0 0)) cs (Yi k x):=⟨(Qm k 0 0 x false 0 0 0 0 none 0 0 false 0 none 0 0 none 0 0 0 0 false false 0 none 0 0 none 0 0 0),rfl,Ye.refused _ k x⟩;have HT:=Zh hT;clear hT;go_enter func78,ntmps78;go_wp2_with (with_reducible refine Zs (Z9 w _) ?_)
 exact VD (results_cell_row Zr _ _ w 100 (Qm k 0 0 x false 0 0 0 0 none 0 0 false 0 none 0 0 none 0 0 0 0 false false 0 none 0 0 none 0 0 0) (0,0) _ Zr y0 underlying100 rfl X_) rfl ⟨HT.o,hb⟩
theorem Lz{B:Nat}{S:Nat→Prop}{a w:World}(h:Fr B S a w){g:Nat}(hg:B≤g)(c:Array Value):Fr B S a (w.setRow g c):=
 ⟨h.os,h.tape,h.output,by simpa[World.setRow]using h.size,fun k hk hs=>by rw[setRow_other w g k _ Zo];exact h.block k hk hs⟩
theorem td{cs:Array Value}(h:cs.all (·.oneCell')=true)(i:Nat){v:Value}(hv:v.oneCell'=true):(cs.setIfInBounds i v).all (·.oneCell')=true:=by
 rw[Array.all_eq_true]at h ⊢;intro j hj;rw[Array.getElem_setIfInBounds];split
 ·exact hv
 ·exact h j (by simpa using hj)
theorem H'(g:Nat)(c0:Value)(ep:Int)(cs:List Value)(w:World)(hg:w.heap[g]?=some (.cells #[c0,.int .i64 ep] 131 (0,0)))(h0:0≤ep)(h9:ep<1000000000)(TN:cs.length=22)(h1:cs.toArray.all (·.oneCell')=true) :
  Calls prog 79 (Qi (some ⟨g,0,none⟩) cs.toArray) w fun e w'=>e = .returned (.agg ((cs.set 0 (.int .i64 2)).set 2 (.int .i64 (ep+1))).toArray)∧w'.heap[g]?=some (.cells #[c0,.int .i64 (ep+1)] 131 (0,0))∧Fr w (· = g) w w':=by
 have Yn:w.cell? ⟨g,1,none⟩=some (.int .i64 ep):=cell_of hg 1;have I8:=ZP hg 1;have zZ:=ZX hg;have hw:IntKind.i64.wrap (ep+1)=ep+1:=Te _ Zo;have hsz':((cs.set 0 (.int .i64 2)).set 2 (.int .i64 (ep+1))).length=22:=by rw[List.length_set,List.length_set,TN]
 have OY:((cs.set 0 (.int .i64 2)).set 2 (.int .i64 (ep+1))).toArray.all (·.oneCell')=true:=by
  have h:=td (td h1 0 (v:= .int .i64 2) rfl) 2 (v:= .int .i64 (ep+1)) rfl;rw[List.setIfInBounds_toArray,List.setIfInBounds_toArray]at h;exact h
 have uD:(w.setCell ⟨g,1,none⟩ (.int .i64 (ep+1))).heap[g]?=some (.cells #[c0,.int .i64 (ep+1)] 131 (0,0)):=VH hg 1 _;have c0':=cell_of uD 1;clear hg h1;go_enter func79,ntmps79;go_upto_region 2 with fail
 have WN:g≠w.heap.size:=by omega
 refine R5 ?_;refine wp_region_held_drew (S:=(fun w'=>w'.cell? ⟨g,1,none⟩=some (.int .i64 (ep+1)))) X_ ?_ (fun X7=>?_)
 ·exact OI (OI c0' _) _
 refine YA 0 (h:=YA 1 (h:=YA 2 (h:=YA 3 (h:=YA 4 (h:=YA 5 (h:=?_))))));refine R3 6 (h:=fun K hK=>?_);go_simp;refine hK.out _ _ ?_ (fun XC=>?_)
 ·exact OI (OI c0' _) _
 clear hK K;try simp only[Z_.pt]
 refine YA 7 (h:=YA 8 (h:=?_));refine R3 9 (h:=fun K hK=>?_);go_simp;refine hK.out _ _ ?_ (fun Vz=>?_)
 ·exact OI (OI c0' _) _
 clear hK K;try simp only[Z_.pt]
 refine wpAnyH_done X_ ?_ _;refine QZ ?_;have hfr1:Fr w (· = g) w ((((w.setCell ⟨g,1,none⟩ (.int .i64 (ep+1))).alloc (.cells ((cs.set 0 (.int .i64 2)).set 2 (.int .i64 (ep+1))).toArray 100)).alloc (.cells Xf 100)).drew):=(((Fr.refl w (· = g) w).setAt 1 (.int .i64 (ep+1))).alloc (by show w.heap.size≤(w.heap.modify _ _).size;rw[Array.size_modify];exact Zw _) _ |>.alloc (by show w.heap.size≤((w.heap.modify _ _).push _).size;rw[Ou,Array.size_modify];exact J_ _) _).drew;have qp:(w.setCell ⟨g,1,none⟩ (.int .i64 (ep+1))).heap.size=w.heap.size:=by show(w.heap.modify _ _).size=_;rw[Array.size_modify]
 have y2:((((w.setCell ⟨g,1,none⟩ (.int .i64 (ep+1))).alloc (.cells ((cs.set 0 (.int .i64 2)).set 2 (.int .i64 (ep+1))).toArray 100)).alloc (.cells Xf 100)).drew).heap[w.heap.size]?=some (.cells ((cs.set 0 (.int .i64 2)).set 2 (.int .i64 (ep+1))).toArray 100 (0,0)):=by
  show(((w.setCell ⟨g,1,none⟩ (.int .i64 (ep+1))).alloc (.cells ((cs.set 0 (.int .i64 2)).set 2 (.int .i64 (ep+1))).toArray 100)).alloc _).heap[w.heap.size]?=_;rw[(Z' _ _).block _ (by show _<((w.setCell _ _).heap.push _).size;rw[Ou,qp];exact Nat.lt_succ_self _),←qp];exact Z9 _ _
 have P8:((((w.setCell ⟨g,1,none⟩ (.int .i64 (ep+1))).alloc (.cells ((cs.set 0 (.int .i64 2)).set 2 (.int .i64 (ep+1))).toArray 100)).alloc (.cells Xf 100)).drew).heap[w.heap.size+1]?=some (.cells Xf 100 (0,0)):=by
  have h:=Z9 ((w.setCell ⟨g,1,none⟩ (.int .i64 (ep+1))).alloc (.cells ((cs.set 0 (.int .i64 2)).set 2 (.int .i64 (ep+1))).toArray 100)) (.cells Xf 100);have e:((w.setCell ⟨g,1,none⟩ (.int .i64 (ep+1))).alloc (.cells ((cs.set 0 (.int .i64 2)).set 2 (.int .i64 (ep+1))).toArray 100)).heap.size=w.heap.size+1:=by show((w.setCell _ _).heap.push _).size=_;rw[Ou,qp]
  rw[e]at h;exact h
 have hgb1:((((w.setCell ⟨g,1,none⟩ (.int .i64 (ep+1))).alloc (.cells ((cs.set 0 (.int .i64 2)).set 2 (.int .i64 (ep+1))).toArray 100)).alloc (.cells Xf 100)).drew).heap[g]?=some (.cells #[c0,.int .i64 (ep+1)] 131 (0,0)):=by
  show(((w.setCell ⟨g,1,none⟩ (.int .i64 (ep+1))).alloc (.cells ((cs.set 0 (.int .i64 2)).set 2 (.int .i64 (ep+1))).toArray 100)).alloc _).heap[g]?=_;rw[(Z' _ _).block _ (by show _<((w.setCell _ _).heap.push _).size;rw[Ou,qp];omega),(Z' _ _).block _ (by rw[qp];exact zZ)];exact uD
 clear X7 XC Vz c0' uD qp;generalize(((w.setCell ⟨g,1,none⟩ (.int .i64 (ep+1))).alloc (.cells ((cs.set 0 (.int .i64 2)).set 2 (.int .i64 (ep+1))).toArray 100)).alloc (.cells Xf 100)).drew=w2 at *
 have T8:=Zh hfr1;have HGB:=Zh hgb1;clear hfr1 hgb1;generalize hcs2:(cs.set 0 (.int .i64 2)).set 2 (.int .i64 (ep+1))=fT at *
 have HCS2:=Zh hcs2;clear hcs2;have hi:(prog.info? 100).map (·.size)=some fT.toArray.size:=by rw[List.size_toArray,hsz'];kernel_rfl
 have hold:(Xf:Array Value).size=fT.toArray.size:=by rw[show fT.toArray.size=22 by rw[List.size_toArray,hsz']];rfl
 have hgs:g≠w.heap.size+1:=by omega
 go_wp2_with (first|(with_reducible refine Zy 100 (.tmp 3) rfl ?_;refine yR rfl 100 (.tmp 3) rfl w rfl 100 fT.toArray (0,0) _ y2 underlying100 rfl hi ?_)|(with_reducible refine ZT 100 (.tmp 4) (.tmp 20) rfl ?_;refine VY rfl 100 (.tmp 4) (.tmp 20) rfl rfl (w.heap.size+1) fT.toArray rfl rfl 100 Xf P8 hi hold OY ?_))
 refine VD (v:= .agg fT.toArray) ?_ rfl ?_
 ·exact results_cell_row Zr _ _ (w.heap.size+1) 100 fT.toArray (0,0) _ Zr (setRow_heap _ _ _ _ _ _ P8) underlying100 rfl hi
 refine⟨by rw[HCS2.o],?_,?_⟩
 ·rw[(Ti w2 (w.heap.size+1) fT.toArray).block g (ZX HGB.o) hgs];exact HGB.o
 ·exact Lz T8.o (J_ _) fT.toArray
end Go.Proofs.By
namespace Go.Proofs.Rm
open Go.RowKit Go.Proofs.Heap Go.Proofs.Mem
theorem G6{a b:ByteArray}(h:a=b):Ending.returned (.string a) = .returned (.string b):=by rw[h]
theorem Xt{a b:Bool}(h:a=b):Ending.returned (.bool a) = .returned (.bool b):=by rw[h]
theorem YS{k:IntKind}{a b:Int}(h:a=b):Ending.returned (.int k a) = .returned (.int k b):=by rw[h]
theorem Xl(n k:Int):VI n k=true↔1≤n∧n<k:=by unfold VI;simp
theorem LJ(n k:Int)(w:World):Calls prog 111 (Q4 n k) w fun e w'=>e = .returned (.bool (VI n k))∧w=w':=by
 have hi:=Xl n k;by_cases h:1≤n
 ·have HF:Hid (VI n k=decide (n<k)):=by show _=_;unfold VI;simp[h]
  clear hi;go_enter func111,ntmps111;go_wp2;go_ret;exact⟨Xt HF.o.symm,rfl⟩
 ·have HF:Hid (VI n k=false):=by show _=_;rw[J8,ne_eq,hi];omega
  clear hi;go_enter func111,ntmps111;go_wp2;go_ret;exact⟨Xt HF.o.symm,rfl⟩
theorem nC(l:List UInt8):(str l).toList=[]↔l=[]:=by
 rw[toList_nil_iff_emptyBytes];constructor
 ·intro h;have:=congrArg (fun b:ByteArray=>b.data.toList) h;simpa[str]using this
 ·intro h;subst h;rfl
theorem G8(l:List UInt8):(str l).toList.isEmpty=l.isEmpty:=by
 rw[Bool.eq_iff_iff,List.isEmpty_iff,List.isEmpty_iff,nC]
theorem Tv(b:Nat)(R:Room)(p:Int)(w:World)(hR:ZR w b R):Calls prog 80 (Qj (some ⟨b,0,none⟩) p) w fun e w'=>e = .returned (.bool (Y_ R p))∧w=w':=by
 have C:=Zh (fun w=>LJ p 9 w);by_cases hi:VI p 9=true
 ·rw[hi]at C;obtain⟨h1,h2⟩:=(Xl p 9).1 hi;obtain⟨n,rfl⟩:=Rw (show 0≤p by omega);have hn:n<9:=by omega
  have hc:=hR.sO hn;have HF:Hid (Y_ R n = !(str (R.names n)).toList.isEmpty):=by show _=_;unfold Y_;rw[hi,Wl,G8,Bool.true_and]
  clear hi hR;go_enter func80,ntmps80;go_wp2_with (go_at_call 111;refine(C.o _).mono ?_;rintro e w' ⟨rfl,rfl⟩)
  all_goals go_ret
  all_goals exact⟨Xt (by rw[HF.o]),rfl⟩
 ·have hi:VI p 9=false:=by simpa using hi
  have HF:Hid (Y_ R p=false):=by show _=_;unfold Y_;rw[hi];rfl
  rw[hi]at C;clear hi;go_enter func80,ntmps80;go_wp2_with (go_at_call 111;refine(C.o _).mono ?_;rintro e w' ⟨rfl,rfl⟩)
  go_ret;exact⟨Xt HF.o.symm,rfl⟩
theorem AZ(b:Nat)(R:Room)(p n:Nat)(w:World)(hR:ZR w b R)(hn:n<9)(hp:p<9) :
  Calls prog 139 (Qu (some ⟨b,0,none⟩) p n) w fun e w'=>e = .returned (.agg (Qh 2 p n 0 0))∧ZR w' b (R.ZQ n p U9)∧Fr w (· = b) w w':=by
 obtain⟨c0,c1,c2⟩:=hR.Gr hn hp;have f0:=hR.YB (54+n*27+p*3);have f1:=hR.YB (54+n*27+p*3+1);have f2:=hR.YB (54+n*27+p*3+2);have hb:=hR.lt;go_enter func139,ntmps139;go_wp2;refine VD (v:= .agg (Qh 2 p n 0 0)) (by simp[results,results139,go_sem]) rfl ⟨rfl,?_,?_⟩
 ·exact(hR.ZQ hn hp U9).below (Z' _ _)
 ·exact((((Fr.refl _ _ _).setAt _ _).setAt _ _).setAt _ _).alloc (by simp only[size_setCell];exact Zw _) _
theorem xO(b:Nat)(R:Room)(p n:Nat)(w:World)(hR:ZR w b R)(hn:n<9)(hp:p<9)(hw:0≤(R.sub n p).want∧(R.sub n p).want<(R.src n).ss.length) :
  Calls prog 166 (Qu (some ⟨b,0,none⟩) p n) w fun e w'=>e = .returned (VZ (asks R p n))∧Below w w w':=by
 obtain⟨c0,c1,c2⟩:=hR.Gr hn hp;obtain⟨s0,s1,s2,s3,s4⟩:=hR.Ml hn;obtain⟨k,hk⟩:=Rw hw.1;rw[hk]at hw c2;have VM:k<(R.src n).ss.length:=by omega
 obtain⟨g,off,cap,GV,hlc,uz,hg,Yu⟩:=Nh (hR.rows n hn) Zo;have hx:=Yu k VM;have HA:Hid (asks R p n=⟨9,(R.src n).own,n,0,(R.src n).ss.getD k 0⟩):=by show _=_;unfold asks;rw[hk];rfl
 rw[GV]at s3;have hb:=hR.lt;have hlen:=(hR.rows n hn).len;clear hk Yu GV hR;generalize(R.src n).ss.getD k 0=X at *
 generalize(R.src n).ss.length=L at *
 generalize(R.src n).own=O at *
 go_enter func166,ntmps166;go_wp2
 go_region
 go_wp2;refine VD (v:=VZ ⟨9,O,n,0,X⟩) (by simp[results,results166,go_sem,VZ]) rfl ⟨by rw[HA.o],?_⟩;exact(((YI _ _).alloc (Zw _) _).alloc Zi _).drew
theorem JT(b:Nat)(R:Room)(p n:Nat)(w:World)(hR:ZR w b R)(hn:n<9)(hp:p<9)(hw:0≤(R.sub n p).want∧(R.sub n p).want<(R.src n).ss.length) :
  Calls prog 141 (Qu (some ⟨b,0,none⟩) p n) w fun e w'=>(∃v,e = .returned v∧YD w' v (waits R p n))∧Below w w w':=by
 obtain⟨c0,c1,c2⟩:=hR.Gr hn hp;obtain⟨s0,s1,s2,s3,s4⟩:=hR.Ml hn;have hb:=hR.lt;have ca:=fun w hR=>xO b R p n w hR hn hp hw
 unfold VZ at ca;have CA:=Zh ca;clear ca;have HR:=Zh hR;have HW:Hid (waits R p n=if(R.sub n p).ZV||(R.src n).ZN then[]else[asks R p n]):=rfl;clear hR hw;generalize asks R p n=A at *
 obtain⟨a1,a2,a3,a4,a5⟩:=A;dsimp only at CA;cases dJ:(R.sub n p).ZV
 ·rw[dJ]at c1;cases lN:(R.src n).ZN
  ·rw[lN]at s4;have HF:Hid (waits R p n=[⟨a1,a2,a3,a4,a5⟩]):=by show _=_;rw[HW.o,dJ,lN];rfl
   clear dJ lN HW;go_enter func141,ntmps141;go_wp2_with (go_at_call 166;refine(CA.o _ HR.o).mono ?_;rintro e w1 ⟨rfl,YZ⟩)
   go_ret;refine⟨⟨_,rfl,?_⟩,YZ.alloc (by simp[YZ.size]) _⟩;rw[HF.o];exact K5 w1 _ 1 _ Zd
  ·rw[lN]at s4;have HF:Hid (waits R p n=[]):=by show _=_;rw[HW.o,dJ,lN];rfl
   clear dJ lN HW;exact cF
 ·rw[dJ]at c1;have HF:Hid (waits R p n=[]):=by show _=_;rw[HW.o,dJ];rfl
  clear dJ HW;exact cF
theorem index_hit{l:List Int}{x:Int}{k:Nat}(hk:k<l.length)(h:l.getD k 0=x)(hn:∀j,j<k→l.getD j 0≠x):index l x=k:=by
 unfold index
 have:l.findIdx? (fun y=>y==x)=some k:=by
  rw[List.findIdx?_eq_some_iff_getElem];refine⟨hk,?_,fun j hj=>?_⟩
  ·rw[Q_,Ve hk]at h;simpa using h
  ·have:=hn j hj;rw[Q_,Ve Zo]at this;simpa using this
 rw[this]
theorem uL{l:List Int}{x:Int}(hn:∀j,j<l.length→l.getD j 0≠x):index l x=-1:=by
 unfold index
 have:l.findIdx? (fun y=>y==x)=none:=by
  rw[List.findIdx?_eq_none_iff];intro y hy;obtain⟨j,hj,rfl⟩:=List.getElem_of_mem hy;have:=hn j hj;rw[Q_,Ve hj]at this;simpa using this
 rw[this]
theorem B0(v:Value)(l:List Int)(x:Int)(w:World)(hv:XM w v l.length (YN l)) :
  Calls prog 156 #[v,.int .u32 x] w fun e w'=>e = .returned (.int .i64 (index l x))∧w=w':=by
 have hlen:=hv.len;by_cases h0:0<l.length
 ·obtain⟨g,off,cap,rfl,hlc,uz,hg,Yu⟩:=Pj hv h0;have HC:=Zh Yu;have HH:=Zh (fun k hk h hn=>@index_hit l x k hk h hn);have HM:=Zh (@uL l x);clear Yu hv;go_enter func156,ntmps156;go_wp2
  go_loop [8] (fun i=>∃k:Nat,k≤l.length∧i = .int .i64 k∧Hid (∀j,j<k→l.getD j 0≠x)) (fun i=>l.length-(intOf i).toNat)
  case atStart=>exact⟨0,TH _,rfl,fun j hj=>by omega⟩
  case round=>
   obtain⟨k,hk,rfl,Ov⟩:=hrel;by_cases VM:k<l.length
   ·have hc:=HC.o k VM;by_cases hx:l.getD k 0=x
    ·have HF:=Zh (HH.o k VM hx Ov.o);rw[hx]at hc;clear hx;go_wp2;go_ret;exact⟨YS HF.o.symm,rfl⟩
    ·have hbeq:(x==l.getD k 0)=false:=by rw[WM];exact fun e=>hx e.symm
     have HX:=Zh hx;clear hx;generalize hy:l.getD k 0=y at *
     have HY:=Zh hy;clear hy;go_wp2
     go_round
     case rel=>exact⟨k+1,Zo,Zn,fun j hj=>by by_cases Ik:j<k;exact Ov.o j Ik;rw[show j=k by omega,HY.o];exact HX.o⟩
     case measure=>simp[intOf];omega
   ·have HF:=Zh (HM.o (fun j hj=>Ov.o j Zo));go_wp2;go_ret;exact⟨YS HF.o.symm,rfl⟩
 ·have:l=[]:=AH Zo;subst this;obtain⟨a,cap,rfl,_⟩:=hv;go_enter func156,ntmps156;go_wp2
  go_loop [8] (fun i=>i = .int .i64 0) (fun _=>0)
  case atStart=>rfl
  case round=>
   subst hrel;go_wp2;go_ret;exact⟨rfl,rfl⟩
def VX(R:Room):Array Value:=((List.range 45).map fun j=>WK R (9+j)).toArray
theorem Rq(R:Room):(VX R).size=45:=by simp[VX]
theorem LU(R:Room)(j:Nat)(h:j<45):(VX R)[j]?=some (WK R (9+j)):=by simp[VX,h]
theorem K9(R:Room)(n:Nat)(h:n<9):(VX R).extract (n*5) (n*5+5)=(Jo (R.src n).there (R.src n).num (R.src n).own (R.src n).sv (R.src n).ZN):=by
 apply Array.ext';rw[Array.toList_extract];apply List.ext_getElem?;intro i;by_cases hi:i<5
 ·have:((VX R).toList.extract (n*5) (n*5+5))[i]?=(VX R)[n*5+i]?:=by
   rw[List.extract_eq_take_drop,List.getElem?_take_of_lt Zo,List.getElem?_drop];simp
  rw[this,LU R _ Zo,show 9+(n*5+i)=9+n*5+i by omega,JJ R h hi];have:i=0∨i=1∨i=2∨i=3∨i=4:=by omega
  rcases this with rfl|rfl|rfl|rfl|rfl <;> rfl
 ·rw[List.getElem?_eq_none (by rw[List.extract_eq_take_drop,SY];omega),List.getElem?_eq_none Uf]
theorem IQ(b:Nat)(R:Room)(x:Int)(w:World)(hR:ZR w b R) :
  Calls prog 127 (Jj (some ⟨b,0,none⟩) x) w fun e w'=>e = .returned (.tuple (Q6 (of R x).1 (of R x).2.1 (of R x).2.2))∧Below w w w':=by
 have TN:∀j,j<(VX R).size→w.cell? ⟨b,9+j,none⟩=(VX R)[j]?:=by
  intro j hj;rw[Rq]at hj;rw[hR.cell Zo,LU R j hj]
 have UB:(prog.info? 146).map (·.size)=some (VX R).size:=by rw[Rq];kernel_rfl
 have HP:Hid (∀n:Nat,n<9→∀w,(Instr.index 146 (.agg (VX R)) (.int .i64 (n:Int))).run prog w = .ok (.agg (Jo (R.src n).there (R.src n).num (R.src n).own (R.src n).sv (R.src n).ZN)) w):=
  fun n hn w=>tQ.Mb w 146 145 9 (VX R) n 5 _ underlying146 hn underlying145 rfl X_ _ (K9 R n hn)
 have HR:=Zh hR;have hb:=hR.lt;have HO:Hid (of R x=RT R x 9 0):=rfl;have HS:Hid (∀k n:Nat,RT R x (k+1) n=if(R.src n).there&&decide (0≤index (R.src n).ss x)then((n:Int),index (R.src n).ss x,true)else RT R x k (n+1)):=fun _ _=>rfl
 have HZ:Hid (∀n:Nat,RT R x 0 n=(0,0,false)):=fun _=>rfl
 clear hR;generalize VX R=CS at *
 go_enter func127,ntmps127;go_wp2_with (refine tQ.SM rfl 146 (.tmp 14) rfl b 9 rfl CS (.array 9 145) TN underlying146 rfl UB ?_)
 clear TN UB;go_loopw [16] (fun i w'=>∃k:Nat,k≤9∧i = .int .i64 k∧Below w w w'∧Hid (of R x=RT R x (9-k) k)) (fun i _=>9-(intOf i).toNat)
 case atStart=>exact⟨0,Zo,rfl,YI _ _,HO.o⟩
 case round=>
  obtain⟨k,hk,rfl,WX,hof⟩:=hrel;by_cases UH:k<9
  ·have gT:=HP.o k UH;have hRr:=HR.o.below WX;have CI:=Zh (fun(w1:World) (h:Below wr wr w1)=>B0 (R.src k).sv (R.src k).ss x w1 ((hRr.rows k UH).below h).r);have HE:=HS.o (8-k) k;rw[show 8-k+1=9-k by omega]at HE;have D4:=Zh HE;obtain⟨sa,scap,GV,SF⟩:=hRr.rows k UH;clear SF;rw[GV]at gT CI;clear HE hRr GV;generalize index (R.src k).ss x=q at *
   generalize(R.src k).ss.length=sl at *
   generalize(R.src k).num=nm at *
   generalize(R.src k).own=ow at *
   generalize(R.src k).ZN=mt at *
   by_cases ht:(R.src k).there=true∧0≤q
   ·have HF:Hid (of R x=((k:Int),q,true)):=by
     show _=_;rw[hof.o,D4.o,ht.1];simp[ht.2]
    obtain⟨ht1,ht2⟩:=ht;rw[ht1]at gT;clear ht1;go_wp2_with (go_at_call 156;refine(CI.o _ (Z' _ _)).mono ?_;rintro e w1 ⟨rfl,rfl⟩)
    go_ret3
    exact⟨by rw[HF.o];rfl,WX.trans ((Z' _ _).mono WX.size)⟩
   ·have HF:Hid (of R x=RT R x (9-(k+1)) (k+1)):=by
     show _=_;rw[hof.o,D4.o,Z3 (by simpa using ht),show 8-k=9-(k+1) by omega]
    cases iW:(R.src k).there
    ·exact bQ
    ·have ht2:q<0:=by
      rw[iW]at ht;simp at ht;exact ht
     exact bQ
  ·have HF:Hid (of R x=(0,0,false)):=by
    show _=_;rw[hof.o,show 9-k=0 by omega,HZ.o]
   go_wp2
   go_ret3
   exact⟨by rw[HF.o];rfl,WX⟩
theorem BR(v:Value)(l:List Int)(w:World)(hv:XM w v l.length (YN l))(hl:l.length≤1000000) :
  Calls prog 112 #[v] w fun e w'=>(∃v',e = .returned v'∧Row w' 66 v' l.length (YN l))∧Below w w w':=by
 obtain⟨a,cap,rfl,SF,NK,SQ,Li⟩:=id hv;have HV:=Zh hv;have HN:=Zh SQ;clear hv Li SF NK SQ;cases a with
 | none=>
  obtain⟨h1,h2⟩:=HN.o rfl;have HL:Hid (l=[]):=AH h1;have he:=fun w=>Lib.run_eql_slice_nil (P:=prog) w 29 66 none l.length cap 0 0 underlying29
  clear h1 h2;go_enter func112,ntmps112;go_wp2;go_ret;exact⟨⟨_,rfl,by rw[HL.o];exact Row.nil _ _⟩,YI _ _⟩
 | some a=>
  have he:=fun w=>Lib.run_eql_slice_nil (P:=prog) w 29 66 (some a) l.length cap 0 0 underlying29
  clear HN;go_enter func112,ntmps112;go_wp2_with (at_builtin;refine PU rfl (.tmp 5) (.tmp 6) 29 rfl w Vo _ 0 [] rfl (SG w 66 1) _ l.length (YN l) rfl (HV.o.below (Z' _ _)) (by rw[VU];omega) (QY l) Zo Zo Zi (fun v' w1 HO HG=>?_))
  go_ret
  have hb:=((Fr.refl w Pz w).alloc (Zw _) (.cells #[] 66)).grown HG.o Zi (by
   intro k hk;have hk:some w.heap.size=some k:=hk;cases hk
   exact Zw _)
  refine⟨⟨_,rfl,?_⟩,hb.below⟩;have:=Row.Z4 HO.o
  rwa[PW,Hz]at this
theorem AA(b:Nat)(R:Room)(p n:Int)(w:World)(hR:ZR w b R) :
  Calls prog 83 (Qu (some ⟨b,0,none⟩) p n) w fun e w'=>
   e = .returned (.tuple (Q0 (if Zp R p n then(Qk p n (R.sub n.toNat p.toNat).want (R.sub n.toNat p.toNat).ZV)else(Qk 0 0 0 false)) (Zp R p n)))∧Below w w w':=by
 have CP:=Zh (fun w=>LJ p 9 w);have CN:=Zh (fun w=>LJ n 9 w);have hb:=hR.lt;have HH:Hid (Zp R p n=(VI p 9&&VI n 9&&(R.sub n.toNat p.toNat).there)):=rfl;by_cases hp:VI p 9=true
 ·by_cases hn:VI n 9=true
  ·obtain⟨h1,h2⟩:=(Xl p 9).1 hp;obtain⟨h3,h4⟩:=(Xl n 9).1 hn;obtain⟨p,rfl⟩:=Rw (show 0≤p by omega);obtain⟨n,rfl⟩:=Rw (show 0≤n by omega);rw[Wl,Wl]at HH ⊢;rw[hp]at CP HH;rw[hn]at CN HH;obtain⟨c0,c1,c2⟩:=hR.Gr (n:=n) (p:=p) Zo Zo;clear hp hn hR;cases ht:(R.sub n p).there
   ·rw[ht]at c0;have HF:Hid (Zp R p n=false):=by show _=_;rw[HH.o,ht];rfl
    rw[HF.o];clear ht;exact cj
   ·rw[ht]at c0;have HF:Hid (Zp R p n=true):=by show _=_;rw[HH.o,ht];rfl
    rw[HF.o];clear ht;go_enter func83,ntmps83;go_wp2_with fail
    refine(CP.o _).mono ?_;rintro e w1 ⟨rfl,rfl⟩;go_wp2_with fail
    refine(CN.o _).mono ?_;rintro e w1 ⟨rfl,rfl⟩;go_wp2_with fail
    refine VD (v:= .tuple (Q0 (Qk p n (R.sub n p).want (R.sub n p).ZV) true)) (by simp[results,results83,go_sem]) rfl ⟨rfl,?_⟩
    repeat(first|exact YI _ _|refine Below.drew ?_|refine Below.alloc ?_ Zi _)
  ·have hn:VI n 9=false:=by simpa using hn
   have HF:Hid (Zp R p n=false):=by show _=_;rw[HH.o,hp,hn];rfl
   rw[HF.o];rw[hp]at CP;rw[hn]at CN;clear hp hn hR;exact cj
 ·have hp:VI p 9=false:=by simpa using hp
  have HF:Hid (Zp R p n=false):=by show _=_;rw[HH.o,hp];rfl
  rw[HF.o];rw[hp]at CP;clear hp hR;go_enter func83,ntmps83;go_wp2_with fail
  refine(CP.o _).mono ?_;exact Yx75
theorem pg(b:Nat)(R:Room)(n:Int)(w:World)(hR:ZR w b R)(h:(VI n 9&&(R.src n.toNat).there)=false) :
  Calls prog 81 (Qj (some ⟨b,0,none⟩) n) w fun e w'=>
   e = .returned (.tuple (Q0 (Qp 0 0 none 0 0 false) false))∧Below w w w':=by
 have CN:=Zh (fun w=>LJ n 9 w);have hb:=hR.lt;by_cases hn:VI n 9=true
 ·obtain⟨h3,h4⟩:=(Xl n 9).1 hn;obtain⟨n,rfl⟩:=Rw (show 0≤n by omega);rw[hn,Wl,Bool.true_and]at h;obtain⟨s0,s1,s2,s3,s4⟩:=hR.Ml (n:=n) Zo;rw[h]at s0;exact Yx84
 ·have hn:VI n 9=false:=by simpa using hn
  exact Yx84
theorem tV(b:Nat)(R:Room)(n:Nat)(w:World)(hR:ZR w b R)(hn:1≤n∧n<9)(h:(R.src n).there=true)(hl:(R.src n).ss.length≤1000000) :
  Calls prog 81 (Qj (some ⟨b,0,none⟩) n) w fun e w'=>
   (∃v',e = .returned (.tuple (Q0 #[.int .i64 (R.src n).num,.int .i64 (R.src n).own,v',.bool (R.src n).ZN] true))∧Row w' 66 v' (R.src n).ss.length (YN (R.src n).ss))∧Below w w w':=by
 have CN:=Zh (fun w=>LJ n 9 w);have hb:=hR.lt;have hi:VI n 9=true:=(Xl _ _).2 Zo;obtain⟨s0,s1,s2,s3,s4⟩:=hR.Ml hn.2;rw[h]at s0;rw[hi]at CN;have Vc:=Zh (hR.rows n hn.2);obtain⟨sa,scap,GV,SF⟩:=hR.rows n hn.2;have CC:=Zh (fun w1 (hw:Below w w w1)=>BR (R.src n).sv (R.src n).ss w1 ((hR.rows n hn.2).below hw).r hl);rw[GV]at s3 CC;clear hi h hR SF GV;generalize(R.src n).ss=ss at *
 generalize(R.src n).num=nm at *
 generalize(R.src n).own=ow at *
 generalize(R.src n).ZN=mt at *
 go_enter func81,ntmps81;go_wp2_with fail
 refine(CN.o _).mono ?_;rintro e w1 ⟨rfl,rfl⟩;go_wp2_with fail
 refine(CC.o _ (by repeat(first|exact YI _ _|refine Below.alloc ?_ Zi _))).mono ?_;rintro e w1 ⟨⟨v',rfl,ZW⟩,YZ⟩;have P9:=Zh ZW;obtain⟨a',cap',rfl,SF⟩:=ZW;obtain⟨LG,I8⟩:=SP YZ;have hz:w.heap.size+1<w1.heap.size:=by have:=YZ.size;simp at this;omega
 have HB:=Zh YZ;have r0:=LG w 0 Uf;have r1:=LG w 1 Uf;have r2:=LG w 2 Uf;have r3:=LG w 3 Uf;simp at r0 r1 r2 r3;clear SF YZ;go_wp2_with fail
 refine VD (v:= .tuple (Q0 (Qp nm ow a' ss.length cap' mt) true)) (by simp[results,results81,go_sem,r0,r1,r2,r3]) rfl ⟨⟨_,rfl,?_⟩,?_⟩
 ·refine P9.o.fr (B:=w1.heap.size) (S:=fun k=>w.heap.size≤k∧k<w.heap.size+2) ?_ (Zw _) ?_
  ·repeat(refine Fr.setCell ?_ (WB Zi) _)
   exact Fr.refl _ _ _
  ·intro k c fr hk;rw[HB.o.block k Uf];obtain⟨n1,n2⟩:=V4 w (.cells (Qp 0 0 none 0 0 false) 108) (.cells (Qp nm ow sa ss.length scap mt) 108);have:k=w.heap.size∨k=w.heap.size+1:=by omega
   rcases this with rfl|rfl
   ·rw[n1];exact Uo Zd
   ·rw[n2];exact Uo Zd
 ·repeat(refine Below.setCell ?_ Zi _)
  exact((Z' _ _).trans ((Z' _ _).mono Zi)).trans (HB.o.mono Uf)
end Go.Proofs.Rm
namespace Go.Proofs.Rm
open Go.RowKit Go.Proofs.Heap Go.Proofs.Mem
theorem Zv{base:Nat}{e:TypeId}{size:Nat}{v:Value}{n:Nat}{xs:List Value}{w w':World}(h:w.ownsRow base e size v n xs)(hb:Below w w w'):w'.ownsRow base e size v n xs:=by
 obtain⟨h1,h2⟩:=h;refine⟨h1,?_⟩;rcases h2 with h2|⟨g,cap,cur,hv,hg,hh,r⟩
 ·exact WO h2
 ·have OT:g<w.heap.size:=by
   rcases Nat.lt_or_ge g w with h|h
   ·exact h
   ·rw[D_ h]at hh;cases hh
  exact WB ⟨g,cap,cur,hv,hg,by rw[hb.block g OT];exact hh,r⟩
def SK(R:Room)(n:Int)(k:Nat):List Nat:=(List.range k).filter fun p=>Zp R p n
theorem zK(R:Room)(n:Int)(k:Nat):SK R n (k+1)=SK R n k++if Zp R k n then[k]else[]:=by
 unfold SK;rw[n_,List.filter_append]
 congr 1
 cases h:Zp R k n <;> simp[h]
theorem Gs(R:Room)(n:Int)(k:Nat):(SK R n k).length≤k:=by
 have:=List.length_filter_le (fun p:Nat=>Zp R p n) (List.range k);rw[List.length_range]at this;exact this
theorem Iq(a b:List Nat):ints (a++b)=ints a++ints b:=Nv
theorem YL{base:Nat}{e:TypeId}{size:Nat}{v:Value}{n:Nat}{xs:List Value}{w:World}(h:w.ownsRow base e size v n xs):∀k,v.ownBlock=some k→base≤k:=by
 intro k hk;obtain⟨_,h⟩:=h;rcases h with⟨rfl,_⟩|⟨g,cap,cur,rfl,hg,_⟩
 ·cases hk
 ·have hk:some g=some k:=hk;cases hk;exact hg
theorem E_(b:Nat)(R:Room)(n:Int)(w:World)(hR:ZR w b R) :
  Calls prog 82 (Qj (some ⟨b,0,none⟩) n) w fun e w'=>(∃v,e = .returned v∧Row w' 3 v (ZY R n).length (ints (ZY R n)))∧Below w w w':=by
 have HR:=Zh hR;have hb:=hR.lt;have HS:Hid (ZY R n=SK R n 9):=rfl;clear hR;go_enter func82,ntmps82;go_wp2;go_loopw [5,9] (fun v i w'=>∃k:Nat,k≤9∧i = .int .i64 k∧Below w w w'∧w'.ownsRow w 3 1 v (SK R n k).length (ints (SK R n k))) (fun _ i _=>9-(intOf i).toNat)
 case atStart=>exact⟨0,Zo,rfl,YI _ _,TV _ _ _ _⟩
 case round=>
  obtain⟨k,hk,rfl,WX,YG⟩:=hrel;have Yk:=Zh YG;clear YG;by_cases UH:k<9
  ·have cs:=AA b R k n wr (HR.o.below WX);have rR:=Zh (zK R n k);have Ht:=Gs R n k;cases hh:Zp R k n
   ·rw[hh,Z3 Zd]at cs;have CS:=Zh cs;clear cs;have HF:Hid (SK R n (k+1)=SK R n k):=by show _=_;rw[rR.o,hh];simp
    clear hh;go_wp2_with (go_at_call 83;refine CS.o.mono ?_;rintro e w1 ⟨rfl,YZ⟩)
    go_roundw
    case rel=>
     refine⟨k+1,Zo,Zn,(WX.trans (YZ.mono WX.size)).alloc (PX WX.size YZ.size) _,?_⟩;rw[HF.o];exact(Zv Yk.o YZ).alloc _
    case measure=>simp[intOf];omega
   ·rw[hh,ZU rfl,Wl]at cs;generalize(R.sub n.toNat k).want=wa at cs;generalize(R.sub n.toNat k).ZV=pa at cs;have CS:=Zh cs;clear cs;have HF:Hid (SK R n (k+1)=SK R n k++[k]):=by show _=_;rw[rR.o,hh];simp
    clear hh;go_wp2_with (first|(go_at_call 83;refine CS.o.mono ?_;rintro e w1 ⟨rfl,YZ⟩)|(at_builtin;refine YO rfl (.tmp 20) (.tmp 22) 72 rfl w W9 _ (SK R n k).length (ints (SK R n k)) rfl ?a1 _ 1 [.int .i64 k] rfl ?a2 rfl ?a4 ?a5 ?a6 ?a7 (fun v' w2 Nl HG=>?_)))
    case a1=>exact((Zv Yk.o YZ).alloc _).alloc _
    case a2=>exact Yw _ _ 1 _ [.int .i64 k] Zd Zi
    case a4=>intro u hu;simp at hu;subst hu;rfl
    case a5=>omega
    case a6=>omega
    case a7=>have h1:=WX.size;have h2:=YZ.size;simp;omega
    go_roundw
    case rel=>
     refine⟨k+1,Zo,Zn,?_,?_⟩
     ·have h1:=WX.trans (YZ.mono WX.size);have h2:=h1.alloc h1.size (.cells (Qk k n wa pa) 105);have h3:=h2.alloc h2.size (.cells #[.int .i64 k] 3);exact h3.grown HG.o h3.size (YL Yk.o)
     ·rw[HF.o,UG,Iq];exact Nl.o
    case measure=>simp[intOf];omega
  ·have dC:k=9:=by omega
   subst dC;go_wp2;go_ret;exact⟨⟨_,rfl,by rw[HS.o];exact Row.Z4 Yk.o⟩,WX⟩
end Go.Proofs.Rm
