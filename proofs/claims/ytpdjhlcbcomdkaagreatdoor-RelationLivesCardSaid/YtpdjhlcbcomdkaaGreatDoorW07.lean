/- Part of a proof. -/
import Derived.Test.YtpdjhlcbcomdkaaGreatDoorW0R
set_option linter.unusedVariables false
set_option linter.unusedSimpArgs false
set_option maxRecDepth 100000
set_option maxHeartbeats 16000000
open Go Go.Q Go.Qr
namespace Go.Proofs.By
open Go.RowKit Go.Proofs.Heap
theorem Z3 {B:Nat} {a w:World} (h:Below B a w) {g:Nat} (hg:B≤g) (c:Array Value):Below B a (w.setRow g c):=
 ⟨h.os,h.tape,h.output,by simpa [World.setRow] using h.size,fun k hk=>by rw [setRow_other w g k _ Zo];exact h.block k hk⟩
theorem ZC {B:Nat} {a w:World} (h:Below B a w) (hB:B≤a.heap.size) (o:Obj):Below B a (w.alloc o):=h.alloc (PW hB h.size) o
theorem Y8 {P:Program} {ops:Array Oper} {rest:List Oper} {o:Oper} {a:Act} {w:World} {Q:Exit→Act→World→Prop} (ty:TypeId) (x:Operand) (_:o.op = .load ty x) (h:wpList P ops Q (o :: rest) a w):wpList P ops Q (o :: rest) a w:=h
theorem Y9 {P:Program} {ops:Array Oper} {rest:List Oper} {o:Oper} {a:Act} {w:World} {Q:Exit→Act→World→Prop} (Mq:o.guard=none) (ty:TypeId) (x:Operand) (ho:o.op = .load ty x)
  (g:Nat) (hx:a.eval x = .pointer (some ⟨g,0,none⟩)) (t:TypeId) (cs:Array Value) (fr:Nat × Nat) (d:TypeDesc) (hg:w.heap[g]?=some (.cells cs t fr))
  (hu:P.underlying ty=some d) (hd:(match d with | .struct _ | .array _ _=>true|_=>false)=true) (hi:(P.info? ty).map (·.size)=some cs.size)
  (h:wpList P ops Q rest (a.put o.dst (.agg cs)) w):wpList P ops Q (o :: rest) a w:=wpList_load_row Mq ty x ho g hx t cs fr d hg hu hd hi h
theorem uq (l:List Int) (x:Int):YO (l++[x])=YO l++[.int .u32 x]:=by simp [YO]
theorem OT {w:World} {a a':Option Addr} {c c' l h:Nat} {b:List UInt8} (hh:h≤b.length) (hl:l≤h) (Z0:∀ w xs,xs.length=b.length*1→XU w (.slice a b.length c) b.length xs→XU w (.slice a' (h-l) c') (h-l) ((xs.drop (l*1)).take ((h-l)*1))) (hv:X9 w (.slice a b.length c) b):X9 w (.slice a' (h-l) c') ((b.drop l).take (h-l)):=by
 have h1:=Z0 w (RX b) (by rw [Xl,Nat.mul_one]) hv
 rw [Nat.mul_one,Nat.mul_one,QZ,Pe] at h1
 have h2:((b.drop l).take (h-l)).length=h-l:=by rw [Tg,Rx];omega
 unfold X9
 rw [h2]
 exact h1
theorem uh (v:Value) (b:List UInt8) (w:World) (hv:X9 w v b) (h0:(looks b).2=0) :
  Calls Tryz.prog 125 #[v] w fun e w'=>(∃ a,e = .returned (.tuple #[a,.int .i64 (YM b).2])∧Oe w' a (YM b).1)∧Below w w w':=by
 have HX:Hid (YM b=(TN b (looks b).1,0)):=by show _=_;unfold YM;rw [Z4 (by simp [h0])]
 have C:=fun w1 h=>AK v b w1 (hv.below (h:Below w w w1))
 have HC:=Zh C
 have HV:Hid (∀ w',Below w w w'→X9 w' v b):=fun w' h=>hv.below h
 obtain ⟨l12,l512,l1,l2,l3,l4⟩:=p_ h0
 obtain ⟨g,off,c,rfl,Sg,BC,W9⟩:=R7 hv Zo
 clear C hv W9
 generalize YM b=X at *
 generalize looks b=Y at *
 obtain ⟨⟨Y1,Y2,Y3⟩,Y4⟩:=Y
 obtain rfl:Y4=0:=h0
 dsimp only at l1 l2 l3 l4 HX HC
 have HN:Hid (∀ w',Below w w w'→∀ p q:Int,Calls Tryz.prog 153 #[(.slice (some ⟨g,off,none⟩) b.length c),.int .i64 p,.int .i64 q] w' fun e w''=>e = .returned (.int .u64 (get b p q:Nat))∧w'=w''):=fun w' h p q=>xJ _ b p q w' (HV.o w' h)
 have HBY:Hid (∀ w',Below w w w'→w'.cell? ⟨g,off,none⟩=some (.int .u8 (at8 b 0:Int))∧w'.cell? ⟨g,off+1,none⟩=some (.int .u8 (at8 b 1:Int))):=fun w' h=>by
  obtain ⟨_,_,_,e,_,_,hc⟩:=R7 (HV.o w' h) Zo
  cases e
  exact ⟨hc 0 Zo,hc 1 Zo⟩
 have rO:Hid (TN b (Y1,Y2,Y3)=⟨decide (128≤at8 b 1),(at8 b 1 % 128:Nat),get b 2 2,get b 4 4,get b 8 4,(List.range (at8 b 0 % 16)).map fun (i:Nat)=>((get b (12+4*(i:Int)) 4:Nat):Int),decide (at8 b 0 / 16 % 2=1),if at8 b 0 / 16 % 2=1 then (get b ((Y1:Int)-4) 2:Int) else 0,if at8 b 0 / 16 % 2=1 then (b.drop Y1).take (Y2-Y1) else [],(b.drop Y2).take (Y3-Y2),(b.length:Int)-(Y3:Int)⟩):=rfl
 have QU:=Xo b 0
 have S9:=Xo b 1
 have a128:=uM (at8 b 1) S9
 have a127:=j4 (at8 b 1) S9
 have Uw:=og (at8 b 0) QU
 have Ue:=oh (at8 b 0) QU
 have b0:get b 2 2<65536:=Va b 2 2 2 Zd
 have b1:get b 4 4<4294967296:=Va b 4 4 4 Zd
 have b2:get b 8 4<4294967296:=Va b 8 4 4 Zd
 have HM:Hid (decide (128≤at8 b 1)=(((at8 b 1 / 128 % 2*128:Nat):Int) != 0)):=by show _=_;rw [Bool.eq_iff_iff,Oh,R6];omega
 have hT:at8 b 1 % 128<128:=Nat.mod_lt _ Zd
 have hm:at8 b 0 % 16<16:=Nat.mod_lt _ Zd
 have hE:at8 b 0 / 16 % 2<2:=Nat.mod_lt _ Zd
 generalize at8 b 1 / 128 % 2*128=M at *
 generalize at8 b 1 % 128=T at *
 generalize at8 b 0 % 16=m at *
 generalize at8 b 0 / 16 % 2=E at *
 have hTw:IntKind.i64.wrap (T:Int)=(T:Int):=Ty _ Zo
 have hmw:IntKind.i64.wrap (m:Int)=(m:Int):=Ty _ Zo
 have hLw:IntKind.i64.wrap ((b.length:Int)-(Y3:Int))=(b.length:Int)-(Y3:Int):=Ty _ Zo
 have aW:(1:Int)<(b.length:Int):=by omega
 have hbN:1<b.length:=by omega
 have hbI0:(0:Int)<(b.length:Int):=by omega
 have hbN0:0<b.length:=by omega
 have hbZ:¬b.length=0:=by omega
 have hq0w:IntKind.u16.wrap ((get b 2 2:Nat):Int)=((get b 2 2:Nat):Int):=by rw [IntKind.wrap_u16];omega
 have hq1w:IntKind.u32.wrap ((get b 4 4:Nat):Int)=((get b 4 4:Nat):Int):=by rw [NW];omega
 have hq2w:IntKind.u32.wrap ((get b 8 4:Nat):Int)=((get b 8 4:Nat):Int):=by rw [NW];omega
 have ah:=Zh Sg
 clear b0 b1 b2 QU S9 Sg BC
 go_enter Tryz.func125,Tryz.ntmps125
 go_wp2_with fail
 refine (HC.o _ (Z' _ _)).mono ?_
 rintro e w2 ⟨rfl,Y0⟩
 clear HC
 have pD:=Y0.block w.heap.size Ca
 rw [Z7] at pD
 have Sr:w.heap.size+1≤w2.heap.size:=by have h:=Y0.size;have h:(w.heap.push _).size≤w2.heap.size:=h;rw [O6] at h;exact h
 have dK:Below w w w2:=(Z' w _).trans (Y0.mono nJ)
 have HRES:Hid ((w2.alloc (.cells (Qn (Y1:Int) (Y2:Int) (Y3:Int)) 238)).heap[w.heap.size]?=some (.cells VI 79)):=((Z' w2 _).block _ Zo).trans pD
 have b_:Hid ((w2.alloc (.cells (Qn (Y1:Int) (Y2:Int) (Y3:Int)) 238)).heap[w2.heap.size]?=some (.cells (Qn (Y1:Int) (Y2:Int) (Y3:Int)) 238)):=Z7 _ _
 have VT:Hid (Below w w (w2.alloc (.cells (Qn (Y1:Int) (Y2:Int) (Y3:Int)) 238))):=ZC dK (Zw _) _
 have yY:w2.heap.size<(w2.alloc (.cells (Qn (Y1:Int) (Y2:Int) (Y3:Int)) 238)).heap.size:=by show _<(w2.heap.push _).size;rw [O6];exact Nat.lt_succ_self _
 clear pD Y0 dK
 go_wp2_with fail
 generalize w2.alloc (.cells (Qn (Y1:Int) (Y2:Int) (Y3:Int)) 238)=w3 at *
 have Im:w.heap.size<w2.heap.size:=by omega
 clear Sr
 generalize w2.heap.size=s at *
 clear w2
 have RV:Hid (∀ w',Below w3 w3 w'→w'.cell? ⟨g,off+1,none⟩=some (.int .u8 (at8 b 1:Int))∧w'.cell? ⟨s,2,none⟩=some (.int .i64 (Y3:Int))∧Below w3 w3 w'):=fun w' h=>
  ⟨(HBY.o w' (VT.o.trans (h.mono (by have:=VT.o.size;omega)))).2,Zc ((h.block s yY).trans b_.o) 2 rfl,h⟩
 refine Sd ?_
 refine wp_region_held_drew (S:=(fun w'=>w'.cell? ⟨g,off+1,none⟩=some (.int .u8 (at8 b 1:Int))∧w'.cell? ⟨s,2,none⟩=some (.int .i64 (Y3:Int))∧Below w3 w3 w')) ZB ?_ (fun X_=>?_)
 ·(try dsimp only)
  exact RV.o _ (YH _ _).drew
 refine YA 0 (h:=YA 1 (h:=YA 2 (h:=YA 3 (h:=YA 4 (h:=YA 5 (h:=YA 6 (h:=YA 7 (h:=YA 8 (h:=YA 9 (h:=YA 10 (h:=YA 11 (h:=YA 12 (h:=YA 13 (h:=YA 14 (h:=YA 15 (h:=?_))))))))))))))))
 refine Si 16 (h:=fun K hK=>?_)
 go_simp
 refine hK.out _ _ ?_ (fun XC=>?_)
 ·exact gF
 clear hK K
 try simp only [Z_.pt]
 refine Si 17 (h:=fun K hK=>?_)
 refine Sz Zr 79 (.tmp 6) (.tmp 32) Zr Zr w3.heap.size (Qb ((M:Int) != 0) (T:Int) 0 0 0 none 0 0 false 0 none 0 0 none 0 0 ((b.length:Int)-(Y3:Int))) Zr Zr 79 _ (Z7 w3.drew _) ZB ZB ZB ?_
 refine hK.out _ _ ?_ (fun VE=>?_)
 ·exact gF
 clear hK K
 try simp only [Z_.pt]
 refine wpAnyH_done ZB ?_ _
 refine QY ?_
 have Gh:Hid (PK w ((w3.alloc (.cells VI 79)).drew.setRow w3.heap.size (Qb ((M:Int) != 0) (T:Int) 0 0 0 none 0 0 false 0 none 0 0 none 0 0 ((b.length:Int)-(Y3:Int)))) s w3.heap.size (Qn (Y1:Int) (Y2:Int) (Y3:Int)) (Qb ((M:Int) != 0) (T:Int) 0 0 0 none 0 0 false 0 none 0 0 none 0 0 ((b.length:Int)-(Y3:Int)))):=
  (PK.mk (cs:=Yz3) (ZC VT.o.drew (Zw _) _) (((Z' w3.drew _).block _ (show w.heap.size<w3.heap.size by omega)).trans HRES.o) (((Z' w3.drew _).block _ yY).trans b_.o) (Z7 w3.drew _) ⟨Im,yY⟩).row (Qb ((M:Int) != 0) (T:Int) 0 0 0 none 0 0 false 0 none 0 0 none 0 0 ((b.length:Int)-(Y3:Int)))
 clear RV HRES b_ VT X_ XC VE
 generalize (w3.alloc (.cells VI 79)).drew.setRow w3.heap.size (Qb ((M:Int) != 0) (T:Int) 0 0 0 none 0 0 false 0 none 0 0 none 0 0 ((b.length:Int)-(Y3:Int)))=w5 at *
 have hs4:s<w3.heap.size:=yY
 clear yY
 generalize w3.heap.size=p at *
 clear w3
 have P7:=Zh Gh.o.Zj
 have u2:w5.cell? ⟨p,2,none⟩=some (.int .u16 0):=Gh.o.cell 2
 have u3:w5.cell? ⟨p,3,none⟩=some (.int .u32 0):=Gh.o.cell 3
 have u4:w5.cell? ⟨p,4,none⟩=some (.int .u32 0):=Gh.o.cell 4
 have f2:=Gh.o.frozen 2
 have f3:=Gh.o.frozen 3
 have f4:=Gh.o.frozen 4
 go_upto_region 6 with (go_at_call 153;refine (HN.o _ P7.o _ _).mono ?_;rintro e w' ⟨rfl,rfl⟩)
 have bW:Hid (PK w (((w5.setCell ⟨p,2,none⟩ (.int .u16 ((get b 2 2:Nat):Int))).setCell ⟨p,3,none⟩ (.int .u32 ((get b 4 4:Nat):Int))).setCell ⟨p,4,none⟩ (.int .u32 ((get b 8 4:Nat):Int))) s p (Qn (Y1:Int) (Y2:Int) (Y3:Int)) (Qb ((M:Int) != 0) (T:Int) ((get b 2 2:Nat):Int) ((get b 4 4:Nat):Int) ((get b 8 4:Nat):Int) none 0 0 false 0 none 0 0 none 0 0 ((b.length:Int)-(Y3:Int)))):=((Gh.o.set 2 (.int .u16 ((get b 2 2:Nat):Int))).set 3 (.int .u32 ((get b 4 4:Nat):Int))).set 4 (.int .u32 ((get b 8 4:Nat):Int))
 clear Gh P7 u2 u3 u4 f2 f3 f4
 generalize ((w5.setCell ⟨p,2,none⟩ (.int .u16 ((get b 2 2:Nat):Int))).setCell ⟨p,3,none⟩ (.int .u32 ((get b 4 4:Nat):Int))).setCell ⟨p,4,none⟩ (.int .u32 ((get b 8 4:Nat):Int))=w6 at *
 clear w5 hq0w hq1w hq2w hTw hLw
 generalize hg0:get b 2 2=q0 at *
 generalize hg1:get b 4 4=q1 at *
 generalize o8:get b 8 4=q2 at *
 have HG0:=Zh hg0
 have O5:=Zh hg1
 have KS:=Zh o8
 clear hg0 hg1 o8
 obtain ⟨d0,d1⟩:=HBY.o _ bW.o.Zj
 clear d1
 go_upto_region 7 with fail
 have HPL0:Hid (PL w w6 s p (Qn (Y1:Int) (Y2:Int) (Y3:Int)) (Qb ((M:Int) != 0) (T:Int) (q0:Int) (q1:Int) (q2:Int) none 0 0 false 0 none 0 0 none 0 0 ((b.length:Int)-(Y3:Int))) (.slice none 0 0) 0 (YO ((List.range 0).map fun (i:Nat)=>((get b (12+4*(i:Int)) 4:Nat):Int)))):=⟨bW.o,Ua _ _ _ _⟩
 clear bW d0
 go_loopw [50] (fun i w'=>∃ (j:Nat) (cv:Value),j≤m∧i = .int .i64 (j:Int)∧PL w w' s p (Qn (Y1:Int) (Y2:Int) (Y3:Int)) [.bool ((M:Int) != 0),.int .i64 (T:Int),.int .u16 (q0:Int),.int .u32 (q1:Int),.int .u32 (q2:Int),cv,.bool false,.int .u16 0,.slice none 0 0,.slice none 0 0,.int .i64 ((b.length:Int)-(Y3:Int))] cv j (YO ((List.range j).map fun (i:Nat)=>((get b (12+4*(i:Int)) 4:Nat):Int)))) (fun i _=>m-(intOf i).toNat)
 case atStart=>exact ⟨0,_,Tw _,rfl,HPL0.o⟩
 case round=>
  clear HPL0
  obtain ⟨j,cv,hj,rfl,pB⟩:=hrel
  obtain ⟨MB,MC,rfl,-,-⟩:=Row.Z6 pB.own
  have vT:=Zh pB
  clear pB
  by_cases Am:j<m
  ·have jt:Hid (PL w wr.drew s p (Qn (Y1:Int) (Y2:Int) (Y3:Int)) (Qb ((M:Int) != 0) (T:Int) (q0:Int) (q1:Int) (q2:Int) MB j MC false 0 none 0 0 none 0 0 ((b.length:Int)-(Y3:Int))) (.slice MB j MC) j (YO ((List.range j).map fun (i:Nat)=>((get b (12+4*(i:Int)) 4:Nat):Int)))):=⟨vT.o.pk.drew,vT.o.own⟩
   have c5:wr.cell? ⟨p,5,none⟩=some (.slice MB j MC):=vT.o.pk.cell 5
   have pB:p<wr.heap.size:=vT.o.pk.tL
   have C9:=Zh (HN.o wr.drew jt.o.pk.Zj (12+4*(j:Int)) 4)
   have Au:get b (12+4*(j:Int)) 4<4294967296:=Va b _ 4 4 Zd
   obtain ⟨xs,Iq⟩:∃ xs,xs=YO ((List.range j).map fun (i:Nat)=>((get b (12+4*(i:Int)) 4:Nat):Int)):=⟨_,rfl⟩
   rw [←Iq] at vT jt
   have HXS:=Zh Iq
   clear Iq
   generalize rD:get b (12+4*(j:Int)) 4=x at *
   have DZ:=Zh rD
   clear rD
   have I3:Hid (PL w (wr.alloc (.cells #[.int .u32 (x:Int)] 66)).drew s p (Qn (Y1:Int) (Y2:Int) (Y3:Int)) (Qb ((M:Int) != 0) (T:Int) (q0:Int) (q1:Int) (q2:Int) MB j MC false 0 none 0 0 none 0 0 ((b.length:Int)-(Y3:Int))) (.slice MB j MC) j xs):=⟨vT.o.pk.below (Z' _ _).drew,Yx vT.o.own (Z' _ _).drew⟩
   have mo:IntKind.i64.wrap (4*(j:Int))=4*(j:Int):=Ty _ Zo
   have bo:IntKind.i64.wrap (12+4*(j:Int))=12+4*(j:Int):=Ty _ Zo
   have hxw:IntKind.u32.wrap (x:Int)=(x:Int):=by rw [NW];omega
   go_upto_region 9 with fail
   refine Sd ?_
   refine wp_region_held_drew (S:=(fun w'=>Below w w w')) ZB ?_ (fun X_=>?_)
   ·(try dsimp only)
    exact jt.o.pk.Zj
   refine YA 0 (h:=YA 2 (h:=YA 3 (h:=YA 4 (h:=YA 5 (h:=?_)))))
   refine wpAnyH_ready (rs:=[1,6]) ZB Zi ?_
   refine AllReadyH.cons (i:=1) rfl (fun K hK=>?_) ?_
   ·skip
    go_simp
    refine hK.out _ _ ?_ (fun XC=>?_)
    ·exact uK
    clear hK K
    try simp only [Z_.pt]
    refine Si 6 (h:=fun K hK=>?_)
    go_simp
    refine C9.o.mono ?_
    rintro e w' ⟨rfl,rfl⟩
    go_wp2_with fail
    refine hK.out _ _ ?_ (fun VE=>?_)
    ·exact uK
    clear hK K
    try simp only [Z_.pt]
    refine YA 7 (h:=?_)
    refine Si 8 (h:=fun K hK=>?_)
    go_simp
    refine hK.out _ _ ?_ (fun OD=>?_)
    ·exact uK
    clear hK K
    try simp only [Z_.pt]
    refine Si 9 (h:=fun K hK=>?_)
    refine Zp Zr (.tmp 54) (.tmp 61) 29 Zr (p+1) Vu (.slice MB j MC) j xs Zr I3.o.own (.slice (some ⟨wr,0,none⟩) 1 1) 1 [.int .u32 (x:Int)] Zr (VF wr 66 1 [.int .u32 (x:Int)] Zd) rfl (by intro u hu;simp at hu;subst hu;rfl) Zo Zo (by show _≤(wr.heap.push _).size;rw [O6];omega) ?_
    intro v' w5 HO HG
    obtain ⟨va,vc,pR,-,-⟩:=Row.Z6 HO.o
    subst pR
    have q9:=Zh (I3.o.grown HG.o)
    have c55:w5.cell? ⟨p,5,none⟩=some (.slice MB j MC):=q9.o.cell 5
    have f55:=q9.o.frozen 5
    refine hK.out _ _ ?_ (fun GP=>?_)
    ·exact uK
    clear hK K
    try simp only [Z_.pt]
    refine YA 10 (h:=?_)
    refine Si 11 (h:=fun K hK=>?_)
    go_simp
    have HP6:=Zh (q9.o.set 5 (.slice va (j+1) vc))
    have I2:=Zh (Vf HO.o (b:=p) (o:=5) (Nat.lt_succ_self _) (.slice va (j+1) vc))
    refine hK.out _ _ ?_ (fun GQ=>?_)
    ·exact uK
    exact cJ
   refine AllReadyH.cons (i:=6) rfl (fun K hK=>?_) AllReadyH.nil
   go_simp
   refine C9.o.mono ?_
   rintro e w' ⟨rfl,rfl⟩
   go_wp2_with fail
   refine hK.out _ _ ?_ (fun oP=>?_)
   ·exact uK
   clear hK K
   try simp only [Z_.pt]
   refine YA 7 (h:=?_)
   refine wpAnyH_ready (rs:=[1,8]) ZB Zi ?_
   refine AllReadyH.cons (i:=1) rfl (fun K hK=>?_) ?_
   ·skip
    go_simp
    refine hK.out _ _ ?_ (fun dE=>?_)
    ·exact uK
    clear hK K
    try simp only [Z_.pt]
    refine Si 8 (h:=fun K hK=>?_)
    go_simp
    refine hK.out _ _ ?_ (fun dF=>?_)
    ·exact uK
    clear hK K
    try simp only [Z_.pt]
    refine Si 9 (h:=fun K hK=>?_)
    refine Zp Zr (.tmp 54) (.tmp 61) 29 Zr (p+1) Vu (.slice MB j MC) j xs Zr I3.o.own (.slice (some ⟨wr,0,none⟩) 1 1) 1 [.int .u32 (x:Int)] Zr (VF wr 66 1 [.int .u32 (x:Int)] Zd) rfl (by intro u hu;simp at hu;subst hu;rfl) Zo Zo (by show _≤(wr.heap.push _).size;rw [O6];omega) ?_
    intro v' w5 HO HG
    obtain ⟨va,vc,pR,-,-⟩:=Row.Z6 HO.o
    subst pR
    have q9:=Zh (I3.o.grown HG.o)
    have c55:w5.cell? ⟨p,5,none⟩=some (.slice MB j MC):=q9.o.cell 5
    have f55:=q9.o.frozen 5
    refine hK.out _ _ ?_ (fun dG=>?_)
    ·exact uK
    clear hK K
    try simp only [Z_.pt]
    refine YA 10 (h:=?_)
    refine Si 11 (h:=fun K hK=>?_)
    go_simp
    have HP6:=Zh (q9.o.set 5 (.slice va (j+1) vc))
    have I2:=Zh (Vf HO.o (b:=p) (o:=5) (Nat.lt_succ_self _) (.slice va (j+1) vc))
    refine hK.out _ _ ?_ (fun Cv=>?_)
    ·exact uK
    exact cJ
   refine AllReadyH.cons (i:=8) rfl (fun K hK=>?_) AllReadyH.nil
   go_simp
   refine hK.out _ _ ?_ (fun Cw=>?_)
   ·exact uK
   clear hK K
   try simp only [Z_.pt]
   refine Si 1 (h:=fun K hK=>?_)
   go_simp
   refine hK.out _ _ ?_ (fun Cx=>?_)
   ·exact uK
   clear hK K
   try simp only [Z_.pt]
   refine Si 9 (h:=fun K hK=>?_)
   refine Zp Zr (.tmp 54) (.tmp 61) 29 Zr (p+1) Vu (.slice MB j MC) j xs Zr I3.o.own (.slice (some ⟨wr,0,none⟩) 1 1) 1 [.int .u32 (x:Int)] Zr (VF wr 66 1 [.int .u32 (x:Int)] Zd) rfl (by intro u hu;simp at hu;subst hu;rfl) Zo Zo (by show _≤(wr.heap.push _).size;rw [O6];omega) ?_
   intro v' w5 HO HG
   obtain ⟨va,vc,pR,-,-⟩:=Row.Z6 HO.o
   subst pR
   have q9:=Zh (I3.o.grown HG.o)
   have c55:w5.cell? ⟨p,5,none⟩=some (.slice MB j MC):=q9.o.cell 5
   have f55:=q9.o.frozen 5
   refine hK.out _ _ ?_ (fun Cy=>?_)
   ·exact uK
   clear hK K
   try simp only [Z_.pt]
   refine YA 10 (h:=?_)
   refine Si 11 (h:=fun K hK=>?_)
   go_simp
   have HP6:=Zh (q9.o.set 5 (.slice va (j+1) vc))
   have I2:=Zh (Vf HO.o (b:=p) (o:=5) (Nat.lt_succ_self _) (.slice va (j+1) vc))
   refine hK.out _ _ ?_ (fun uU=>?_)
   ·exact uK
   exact cJ
  ·obtain rfl:j=m:=by omega
   obtain ⟨CL,hCL⟩:∃ CL,CL=(List.range j).map fun (i:Nat)=>((get b (12+4*(i:Int)) 4:Nat):Int):=⟨_,rfl⟩
   have Mp:CL.length=j:=by rw [hCL,Tx,List.length_range]
   rw [←hCL] at vT rO
   have IJ:Hid (PR w wr s p (Qn (Y1:Int) (Y2:Int) (Y3:Int)) (Qb ((M:Int) != 0) (T:Int) (q0:Int) (q1:Int) (q2:Int) MB j MC false 0 none 0 0 none 0 0 ((b.length:Int)-(Y3:Int))) (.slice MB j MC) (.slice none 0 0) (.slice none 0 0) CL [] []):=⟨vT.o.pk,by rw [Mp];exact Row.Z6 vT.o.own,Row.nil _ _,Row.nil _ _⟩
   have HCLE:=Zh Mp
   clear vT hCL Mp Am hj
   obtain ⟨d0,d1⟩:=HBY.o _ IJ.o.pk.Zj
   clear d1
   have iO:p<wr.heap.size:=IJ.o.pk.tL
   obtain hE0|hE1:E=0∨E=1:=by omega
   ·subst hE0
    rw [Nat.zero_mul] at Ue
    go_upto_region 13 with fail
    have sc1:wr.cell? ⟨s,1,none⟩=some (.int .i64 (Y2:Int)):=IJ.o.pk.Rp 1
    have sc2:wr.cell? ⟨s,2,none⟩=some (.int .i64 (Y3:Int)):=IJ.o.pk.Rp 2
    obtain ⟨a',Uz,Z0⟩:=Wk (P:=Tryz.prog) VL (some ⟨g,off,none⟩) b.length c Y2 Y3 l3 l4 ah.o
    have pC:((b.drop Y2).take (Y3-Y2)).length=Y3-Y2:=by rw [Tg,Rx];omega
    have uA:=Zh (L6 _ ((b.drop Y2).take (Y3-Y2)) wr (OT l4 l3 Z0 (HV.o _ IJ.o.pk.Zj)) (by rw [pC];omega))
    rw [pC] at uA
    clear Z0 pC
    obtain ⟨PY,dI⟩:∃ PY,PY=(b.drop Y2).take (Y3-Y2):=⟨_,rfl⟩
    rw [←dI] at uA rO
    have HPY:=Zh dI
    clear dI
    go_upto_region 14 with (go_at_call 154;refine uA.o.mono ?_;rintro e SA ⟨⟨pv,rfl,tA⟩,Ny⟩;obtain ⟨pa,pc,Mr,-,-⟩:=id tA;subst Mr;have Tb:=Zh (IJ.o.below Ny);have ng:=Zh tA;clear tA Ny;have c9:SA.cell? ⟨p,9,none⟩=some (.slice none 0 0):=Tb.o.pk.cell 9;have f9:=Tb.o.pk.frozen 9)
    have Gh:Hid (PK w (SA.setCell ⟨p,9,none⟩ (.slice pa (Y3-Y2) pc)) s p (Qn (Y1:Int) (Y2:Int) (Y3:Int)) (Qb ((M:Int) != 0) (T:Int) (q0:Int) (q1:Int) (q2:Int) MB j MC false 0 none 0 0 pa (Y3-Y2) pc ((b.length:Int)-(Y3:Int)))):=Tb.o.pk.set 9 (.slice pa (Y3-Y2) pc)
    have KT:=Zh (Tb.o.csr.setCell (p:=⟨p,9,none⟩) Tb.o.pk.Za Zd (.slice pa (Y3-Y2) pc))
    have uF:=Zh (Tb.o.exr.setCell (p:=⟨p,9,none⟩) Tb.o.pk.Za Zd (.slice pa (Y3-Y2) pc))
    have zx:=Zh (ng.o.setCell (p:=⟨p,9,none⟩) Tb.o.pk.Za Zd (.slice pa (Y3-Y2) pc))
    clear IJ Tb ng uA c9 f9 sc1 sc2 Uz
    generalize SA.setCell ⟨p,9,none⟩ (.slice pa (Y3-Y2) pc)=FX at *
    clear SA
    have Pn:FX.heap[p]?=some (.cells (Qb ((M:Int) != 0) (T:Int) (q0:Int) (q1:Int) (q2:Int) MB j MC false 0 none 0 0 pa (Y3-Y2) pc ((b.length:Int)-(Y3:Int))) 79 (0,0)):=Gh.o.Za
    have Lq:FX.heap[w.heap.size]?=some (.cells VI 79 (0,0)):=Gh.o.res
    go_wp2_with (first|(with_reducible refine Y8 79 (.tmp 6) rfl ?_;refine Y9 rfl 79 (.tmp 6) rfl p rfl 79 (Qb ((M:Int) != 0) (T:Int) (q0:Int) (q1:Int) (q2:Int) MB j MC false 0 none 0 0 pa (Y3-Y2) pc ((b.length:Int)-(Y3:Int))) (0,0) _ Pn Tryz.underlying79 rfl ZB ?_)|(with_reducible refine ZU 79 (.tmp 2) (.tmp 94) rfl ?_;refine ZW rfl 79 (.tmp 2) (.tmp 94) rfl rfl w.heap.size (Qb ((M:Int) != 0) (T:Int) (q0:Int) (q1:Int) (q2:Int) MB j MC false 0 none 0 0 pa (Y3-Y2) pc ((b.length:Int)-(Y3:Int))) rfl rfl 79 _ Lq ZB ZB ZB ?_))
    have y0:=setRow_heap FX w.heap.size _ (Qb ((M:Int) != 0) (T:Int) (q0:Int) (q1:Int) (q2:Int) MB j MC false 0 none 0 0 pa (Y3-Y2) pc ((b.length:Int)-(Y3:Int))) 79 (0,0) Lq
    have z0:=cell_of y0 0
    have z1:=cell_of y0 1
    have z2:=cell_of y0 2
    have z3:=cell_of y0 3
    have z4:=cell_of y0 4
    have z5:=cell_of y0 5
    have z6:=cell_of y0 6
    have z7:=cell_of y0 7
    have z8:=cell_of y0 8
    have z9:=cell_of y0 9
    have qR:=cell_of y0 10
    simp only [SK,S6,SJ] at z0 z1 z2 z3 z4 z5 z6 z7 z8 z9 qR
    refine VJ (v:= .tuple (Qo (Qb ((M:Int) != 0) (T:Int) (q0:Int) (q1:Int) (q2:Int) MB j MC false 0 none 0 0 pa (Y3-Y2) pc ((b.length:Int)-(Y3:Int))) 0)) (by simp [results,Tryz.results125,go_sem,z0,z1,z2,z3,z4,z5,z6,z7,z8,z9,qR]) rfl ⟨⟨_,by rw [HX.o],?_⟩,?_⟩
    ·rw [HX.o]
     show Oe _ _ (TN b (Y1,Y2,Y3))
     rw [rO.o,HM.o]
     refine ⟨.slice MB j MC,.slice none 0 0,.slice pa (Y3-Y2) pc,rfl,Row.setRow KT.o Lq Zd _,Row.setRow uF.o Lq Zd _,?_⟩
     have h:=Row.setRow zx.o Lq Zd (Qb ((M:Int) != 0) (T:Int) (q0:Int) (q1:Int) (q2:Int) MB j MC false 0 none 0 0 pa (Y3-Y2) pc ((b.length:Int)-(Y3:Int)))
     rw [show Y3-Y2=PY.length by rw [HPY.o,Tg,Rx];omega] at h ⊢
     exact h
    ·exact Z3 Gh.o.Zj (Zw _) _
   ·subst hE1
    rw [Nat.one_mul] at Ue
    go_upto_region 12 with fail
    have sc0:wr.cell? ⟨s,0,none⟩=some (.int .i64 (Y1:Int)):=IJ.o.pk.Rp 0
    have vW:Hid (∀ w',Below wr wr w'→w'.cell? ⟨s,0,none⟩=some (.int .i64 (Y1:Int))∧w'.cell? ⟨s,1,none⟩=some (.int .i64 (Y2:Int))∧Below w w w'):=fun w' h=>⟨(IJ.o.below h).pk.Rp 0,(IJ.o.below h).pk.Rp 1,(IJ.o.below h).pk.Zj⟩
    obtain ⟨a',Uz,Z0⟩:=Wk (P:=Tryz.prog) VL (some ⟨g,off,none⟩) b.length c Y1 Y2 l2 Zo ah.o
    have pC:((b.drop Y1).take (Y2-Y1)).length=Y2-Y1:=by rw [Tg,Rx];omega
    have uA:=Zh (L6 _ ((b.drop Y1).take (Y2-Y1)) wr.drew (OT Zo l2 Z0 (HV.o _ IJ.o.pk.Zj.drew)) (by rw [pC];omega))
    rw [pC] at uA
    clear Z0 pC d0 sc0
    obtain ⟨ES,hES⟩:∃ ES,ES=(b.drop Y1).take (Y2-Y1):=⟨_,rfl⟩
    have hJ:ES.length=Y2-Y1:=by rw [hES,Tg,Rx];omega
    rw [←hES] at uA rO
    have HEL:=Zh hJ
    clear hES hJ
    have hw4:IntKind.i64.wrap ((Y1:Int)-4)=(Y1:Int)-4:=Ty _ Zo
    have Ex:get b ((Y1:Int)-4) 2<65536:=Va b _ 2 2 Zd
    have CNP:=Zh (HN.o wr.drew IJ.o.pk.Zj.drew ((Y1:Int)-4) 2)
    generalize get b ((Y1:Int)-4) 2=pf at *
    have hpw:IntKind.u16.wrap (pf:Int)=(pf:Int):=by rw [IntKind.wrap_u16];omega
    clear Ex
    refine Sd ?_
    refine wp_region_held_drew (S:=(fun w'=>w'.cell? ⟨s,0,none⟩=some (.int .i64 (Y1:Int))∧w'.cell? ⟨s,1,none⟩=some (.int .i64 (Y2:Int))∧Below w w w')) ZB ?_ (fun X_=>?_)
    ·(try dsimp only)
     exact vW.o _ (YH _ _).drew
    refine YA 0 (h:=YA 1 (h:=YA 2 (h:=YA 3 (h:=YA 6 (h:=YA 7 (h:=YA 8 (h:=YA 9 (h:=YA 10 (h:=YA 11 (h:=YA 13 (h:=?_)))))))))))
    refine Si 4 (h:=fun K hK=>?_)
    go_simp
    refine CNP.o.mono ?_
    rintro e w' ⟨rfl,rfl⟩
    go_wp2_with fail
    refine hK.out _ _ ?_ (fun XC=>?_)
    ·exact nS
    clear hK K
    try simp only [Z_.pt]
    refine YA 5 (h:=?_)
    refine Si 12 (h:=fun K hK=>?_)
    go_simp
    refine uA.o.mono ?_
    rintro e w8 ⟨⟨ev,rfl,R9⟩,kM⟩
    obtain ⟨ea,ec,Lm,-,-⟩:=id R9
    subst Lm
    go_wp2_with fail
    have J6:=Zh ((IJ.o.drew).below kM)
    have HER:=Zh R9
    clear R9
    have v6:w8.cell? ⟨p,6,none⟩=some (.bool false):=J6.o.pk.cell 6
    have v7:w8.cell? ⟨p,7,none⟩=some (.int .u16 0):=J6.o.pk.cell 7
    have v8:w8.cell? ⟨p,8,none⟩=some (.slice none 0 0):=J6.o.pk.cell 8
    have g6:=J6.o.pk.frozen 6
    have g7:=J6.o.pk.frozen 7
    have g8:=J6.o.pk.frozen 8
    have hp8:p<w8.heap.size:=J6.o.pk.tL
    have k0:=J6.o.pk.Rp 0
    have k1:=J6.o.pk.Rp 1
    refine hK.out _ _ ?_ (fun VE=>?_)
    ·exact nS
    clear hK K
    try simp only [Z_.pt]
    refine Si 14 (h:=fun K hK=>?_)
    go_simp
    have Ui:=Zh (J6.o.set 6 (.bool true))
    refine hK.out _ _ ?_ (fun OD=>?_)
    ·exact nS
    clear hK K
    try simp only [Z_.pt]
    refine YA 15 (h:=?_)
    refine Si 16 (h:=fun K hK=>?_)
    go_simp
    have PU:=Zh (Ui.o.set 7 (.int .u16 (pf:Int)))
    refine hK.out _ _ ?_ (fun GP=>?_)
    ·exact nS
    clear hK K
    try simp only [Z_.pt]
    refine YA 17 (h:=?_)
    refine Si 18 (h:=fun K hK=>?_)
    go_simp
    have ju:=Zh (PU.o.set 8 (.slice ea (Y2-Y1) ec))
    refine hK.out _ _ ?_ (fun GQ=>?_)
    ·exact nS
    clear hK K
    try simp only [Z_.pt]
    refine wpAnyH_done ZB ?_ _
    refine QY ?_
    have HER3:=Zh (((HER.o.setCell (p:=⟨p,6,none⟩) J6.o.pk.Za Zd (.bool true)).setCell (p:=⟨p,7,none⟩) Ui.o.pk.Za Zd (.int .u16 (pf:Int))).setCell (p:=⟨p,8,none⟩) PU.o.pk.Za Zd (.slice ea (Y2-Y1) ec))
    have HPRE:Hid (PR w (((w8.setCell ⟨p,6,none⟩ (.bool true)).setCell ⟨p,7,none⟩ (.int .u16 (pf:Int))).setCell ⟨p,8,none⟩ (.slice ea (Y2-Y1) ec)) s p (Qn (Y1:Int) (Y2:Int) (Y3:Int)) (Qb ((M:Int) != 0) (T:Int) (q0:Int) (q1:Int) (q2:Int) MB j MC true (pf:Int) ea (Y2-Y1) ec none 0 0 ((b.length:Int)-(Y3:Int))) (.slice MB j MC) (.slice ea (Y2-Y1) ec) (.slice none 0 0) CL ES []):=⟨ju.o.pk,ju.o.csr,by rw [HEL.o];exact HER3.o,Row.nil _ _⟩
    clear J6 Ui PU ju HER HER3 v6 v7 v8 g6 g7 g8 hp8 k0 k1 vW IJ CNP uA Uz hw4 hpw iO X_ XC VE OD GP GQ kM
    generalize ((w8.setCell ⟨p,6,none⟩ (.bool true)).setCell ⟨p,7,none⟩ (.int .u16 (pf:Int))).setCell ⟨p,8,none⟩ (.slice ea (Y2-Y1) ec)=w9 at *
    clear w8
    have IJ:=HPRE
    clear HPRE
    obtain ⟨d0,-⟩:=HBY.o _ IJ.o.pk.Zj
    have iO:p<w9.heap.size:=IJ.o.pk.tL
    go_upto_region 13 with fail
    have sc1:w9.cell? ⟨s,1,none⟩=some (.int .i64 (Y2:Int)):=IJ.o.pk.Rp 1
    have sc2:w9.cell? ⟨s,2,none⟩=some (.int .i64 (Y3:Int)):=IJ.o.pk.Rp 2
    obtain ⟨a',Uz,Z0⟩:=Wk (P:=Tryz.prog) VL (some ⟨g,off,none⟩) b.length c Y2 Y3 l3 l4 ah.o
    have pC:((b.drop Y2).take (Y3-Y2)).length=Y3-Y2:=by rw [Tg,Rx];omega
    have uA:=Zh (L6 _ ((b.drop Y2).take (Y3-Y2)) w9 (OT l4 l3 Z0 (HV.o _ IJ.o.pk.Zj)) (by rw [pC];omega))
    rw [pC] at uA
    clear Z0 pC
    obtain ⟨PY,dI⟩:∃ PY,PY=(b.drop Y2).take (Y3-Y2):=⟨_,rfl⟩
    rw [←dI] at uA rO
    have HPY:=Zh dI
    clear dI
    go_upto_region 14 with (go_at_call 154;refine uA.o.mono ?_;rintro e SA ⟨⟨pv,rfl,tA⟩,Ny⟩;obtain ⟨pa,pc,Mr,-,-⟩:=id tA;subst Mr;have Tb:=Zh (IJ.o.below Ny);have ng:=Zh tA;clear tA Ny;have c9:SA.cell? ⟨p,9,none⟩=some (.slice none 0 0):=Tb.o.pk.cell 9;have f9:=Tb.o.pk.frozen 9)
    have Gh:Hid (PK w (SA.setCell ⟨p,9,none⟩ (.slice pa (Y3-Y2) pc)) s p (Qn (Y1:Int) (Y2:Int) (Y3:Int)) (Qb ((M:Int) != 0) (T:Int) (q0:Int) (q1:Int) (q2:Int) MB j MC true (pf:Int) ea (Y2-Y1) ec pa (Y3-Y2) pc ((b.length:Int)-(Y3:Int)))):=Tb.o.pk.set 9 (.slice pa (Y3-Y2) pc)
    have KT:=Zh (Tb.o.csr.setCell (p:=⟨p,9,none⟩) Tb.o.pk.Za Zd (.slice pa (Y3-Y2) pc))
    have uF:=Zh (Tb.o.exr.setCell (p:=⟨p,9,none⟩) Tb.o.pk.Za Zd (.slice pa (Y3-Y2) pc))
    have zx:=Zh (ng.o.setCell (p:=⟨p,9,none⟩) Tb.o.pk.Za Zd (.slice pa (Y3-Y2) pc))
    clear IJ Tb ng uA c9 f9 sc1 sc2 Uz
    generalize SA.setCell ⟨p,9,none⟩ (.slice pa (Y3-Y2) pc)=FX at *
    clear SA
    have Pn:FX.heap[p]?=some (.cells (Qb ((M:Int) != 0) (T:Int) (q0:Int) (q1:Int) (q2:Int) MB j MC true (pf:Int) ea (Y2-Y1) ec pa (Y3-Y2) pc ((b.length:Int)-(Y3:Int))) 79 (0,0)):=Gh.o.Za
    have Lq:FX.heap[w.heap.size]?=some (.cells VI 79 (0,0)):=Gh.o.res
    go_wp2_with (first|(with_reducible refine Y8 79 (.tmp 6) rfl ?_;refine Y9 rfl 79 (.tmp 6) rfl p rfl 79 (Qb ((M:Int) != 0) (T:Int) (q0:Int) (q1:Int) (q2:Int) MB j MC true (pf:Int) ea (Y2-Y1) ec pa (Y3-Y2) pc ((b.length:Int)-(Y3:Int))) (0,0) _ Pn Tryz.underlying79 rfl ZB ?_)|(with_reducible refine ZU 79 (.tmp 2) (.tmp 94) rfl ?_;refine ZW rfl 79 (.tmp 2) (.tmp 94) rfl rfl w.heap.size (Qb ((M:Int) != 0) (T:Int) (q0:Int) (q1:Int) (q2:Int) MB j MC true (pf:Int) ea (Y2-Y1) ec pa (Y3-Y2) pc ((b.length:Int)-(Y3:Int))) rfl rfl 79 _ Lq ZB ZB ZB ?_))
    have y0:=setRow_heap FX w.heap.size _ (Qb ((M:Int) != 0) (T:Int) (q0:Int) (q1:Int) (q2:Int) MB j MC true (pf:Int) ea (Y2-Y1) ec pa (Y3-Y2) pc ((b.length:Int)-(Y3:Int))) 79 (0,0) Lq
    have z0:=cell_of y0 0
    have z1:=cell_of y0 1
    have z2:=cell_of y0 2
    have z3:=cell_of y0 3
    have z4:=cell_of y0 4
    have z5:=cell_of y0 5
    have z6:=cell_of y0 6
    have z7:=cell_of y0 7
    have z8:=cell_of y0 8
    have z9:=cell_of y0 9
    have qR:=cell_of y0 10
    simp only [SK,S6,SJ] at z0 z1 z2 z3 z4 z5 z6 z7 z8 z9 qR
    refine VJ (v:= .tuple (Qo (Qb ((M:Int) != 0) (T:Int) (q0:Int) (q1:Int) (q2:Int) MB j MC true (pf:Int) ea (Y2-Y1) ec pa (Y3-Y2) pc ((b.length:Int)-(Y3:Int))) 0)) (by simp [results,Tryz.results125,go_sem,z0,z1,z2,z3,z4,z5,z6,z7,z8,z9,qR]) rfl ⟨⟨_,by rw [HX.o],?_⟩,?_⟩
    ·rw [HX.o]
     show Oe _ _ (TN b (Y1,Y2,Y3))
     rw [rO.o,HM.o]
     refine ⟨.slice MB j MC,.slice ea (Y2-Y1) ec,.slice pa (Y3-Y2) pc,rfl,Row.setRow KT.o Lq Zd _,Row.setRow uF.o Lq Zd _,?_⟩
     have h:=Row.setRow zx.o Lq Zd (Qb ((M:Int) != 0) (T:Int) (q0:Int) (q1:Int) (q2:Int) MB j MC true (pf:Int) ea (Y2-Y1) ec pa (Y3-Y2) pc ((b.length:Int)-(Y3:Int)))
     rw [show Y3-Y2=PY.length by rw [HPY.o,Tg,Rx];omega] at h ⊢
     exact h
    ·exact Z3 Gh.o.Zj (Zw _) _
open Go.Proofs.Rm (YG YD Room ZT)
theorem Pf {w:World} {g o:Nat} {u:Value} (h:w.cell? ⟨g,o,none⟩=some u) (x:Obj):(w.alloc x).cell? ⟨g,o,none⟩=some u:=by
 rw [World.cell?_of_block (w:=w) ((Z' w x).block g (World.block_lt_of_cell? w ⟨g,o,none⟩ h))];exact h
theorem QK (k x:Int) (w:World):Calls Tryz.prog 78 (Qz k x) w fun e w'=>(∃ cs:List Value,e = .returned (.agg cs.toArray)∧Yh w' cs (Yf k x))∧Below w w w':=by
 have hb:Below w w ((w.alloc (.cells Xv 100)).setRow w.heap.size (Qm k 0 0 x false 0 0 0 0 none 0 0 false 0 none 0 0 none 0 0 0 0 false false 0 none 0 0 none 0 0 0)):=Z3 (Z' w _) (Zw _) _
 have y0:=setRow_heap (w.alloc (.cells Xv 100)) w.heap.size Xv (Qm k 0 0 x false 0 0 0 0 none 0 0 false 0 none 0 0 none 0 0 0 0 false false 0 none 0 0 none 0 0 0) 100 (0,0) (Z7 w _)
 have hT:∃ cs:List Value,Ending.returned (.agg (Qm k 0 0 x false 0 0 0 0 none 0 0 false 0 none 0 0 none 0 0 0 0 false false 0 none 0 0 none 0 0 0)) = .returned (.agg cs.toArray)∧Yh ((w.alloc (.cells Xv 100)).setRow w.heap.size (Qm k 0 0 x false 0 0 0 0 none 0 0 false 0 none 0 0 none 0 0 0 0 false false 0 none 0 0 none 0 0 0)) cs (Yf k x):=⟨(Qm k 0 0 x false 0 0 0 0 none 0 0 false 0 none 0 0 none 0 0 0 0 false false 0 none 0 0 none 0 0 0),rfl,Yh.refused _ k x⟩
 have HT:=Zh hT
 clear hT
 go_enter Tryz.func78,Tryz.ntmps78
 go_wp2_with (with_reducible refine ZU 100 (.tmp 4) (.tmp 8) rfl ?_;refine ZW rfl 100 (.tmp 4) (.tmp 8) rfl rfl w.heap.size (Qm k 0 0 x false 0 0 0 0 none 0 0 false 0 none 0 0 none 0 0 0 0 false false 0 none 0 0 none 0 0 0) rfl rfl 100 Xv (Z7 w _) ZB ZB ZB ?_)
 exact VJ (results_cell_row Zr _ _ w.heap.size 100 (Qm k 0 0 x false 0 0 0 0 none 0 0 false 0 none 0 0 none 0 0 0 0 false false 0 none 0 0 none 0 0 0) (0,0) _ Zr y0 Tryz.underlying100 rfl ZB) rfl ⟨HT.o,hb⟩
theorem Mj {B:Nat} {S:Nat→Prop} {a w:World} (h:Fr B S a w) {g:Nat} (hg:B≤g) (c:Array Value):Fr B S a (w.setRow g c):=
 ⟨h.os,h.tape,h.output,by simpa [World.setRow] using h.size,fun k hk hs=>by rw [setRow_other w g k _ Zo];exact h.block k hk hs⟩
theorem vI {cs:Array Value} (h:cs.all (·.oneCell')=true) (i:Nat) {v:Value} (hv:v.oneCell'=true):(cs.setIfInBounds i v).all (·.oneCell')=true:=by
 rw [Array.all_eq_true] at h ⊢
 intro j hj
 rw [Array.getElem_setIfInBounds]
 split
 ·exact hv
 ·exact h j (by simpa using hj)
theorem JE (g:Nat) (c0:Value) (ep:Int) (cs:List Value) (w:World) (hg:w.heap[g]?=some (.cells #[c0,.int .i64 ep] 131 (0,0))) (h0:0≤ep) (h9:ep<1000000000) (Tz:cs.length=22) (h1:cs.toArray.all (·.oneCell')=true) :
  Calls Tryz.prog 79 (Qi (some ⟨g,0,none⟩) cs.toArray) w fun e w'=>e = .returned (.agg ((cs.set 0 (.int .i64 2)).set 2 (.int .i64 (ep+1))).toArray)∧w'.heap[g]?=some (.cells #[c0,.int .i64 (ep+1)] 131 (0,0))∧Fr w (· = g) w w':=by
 have Yp:w.cell? ⟨g,1,none⟩=some (.int .i64 ep):=cell_of hg 1
 have KN:=ZO hg 1
 have Bz:=ZV hg
 have hw:IntKind.i64.wrap (ep+1)=ep+1:=Ty _ Zo
 have hsz':((cs.set 0 (.int .i64 2)).set 2 (.int .i64 (ep+1))).length=22:=by rw [List.length_set,List.length_set,Tz]
 have Pr:((cs.set 0 (.int .i64 2)).set 2 (.int .i64 (ep+1))).toArray.all (·.oneCell')=true:=by
  have h:=vI (vI h1 0 (v:= .int .i64 2) rfl) 2 (v:= .int .i64 (ep+1)) rfl
  rw [List.setIfInBounds_toArray,List.setIfInBounds_toArray] at h
  exact h
 have wW:(w.setCell ⟨g,1,none⟩ (.int .i64 (ep+1))).heap[g]?=some (.cells #[c0,.int .i64 (ep+1)] 131 (0,0)):=VM hg 1 _
 have c0':=cell_of wW 1
 clear hg h1
 go_enter Tryz.func79,Tryz.ntmps79
 go_upto_region 2 with fail
 have WM:g≠w.heap.size:=by omega
 refine Sd ?_
 refine wp_region_held_drew (S:=(fun w'=>w'.cell? ⟨g,1,none⟩=some (.int .i64 (ep+1)))) ZB ?_ (fun X_=>?_)
 ·(try dsimp only)
  exact Pf (Pf c0' _) _
 refine YA 0 (h:=YA 1 (h:=YA 2 (h:=YA 3 (h:=YA 4 (h:=YA 5 (h:=?_))))))
 refine Si 6 (h:=fun K hK=>?_)
 go_simp
 refine hK.out _ _ ?_ (fun XC=>?_)
 ·(try dsimp only)
  exact Pf (Pf c0' _) _
 clear hK K
 try simp only [Z_.pt]
 refine YA 7 (h:=YA 8 (h:=?_))
 refine Si 9 (h:=fun K hK=>?_)
 go_simp
 refine hK.out _ _ ?_ (fun VE=>?_)
 ·(try dsimp only)
  exact Pf (Pf c0' _) _
 clear hK K
 try simp only [Z_.pt]
 refine wpAnyH_done ZB ?_ _
 refine QY ?_
 have hfr1:Fr w (· = g) w ((((w.setCell ⟨g,1,none⟩ (.int .i64 (ep+1))).alloc (.cells ((cs.set 0 (.int .i64 2)).set 2 (.int .i64 (ep+1))).toArray 100)).alloc (.cells Xv 100)).drew):=(((Fr.refl w.heap.size (· = g) w).setAt 1 (.int .i64 (ep+1))).alloc (by show w.heap.size≤(w.heap.modify _ _).size;rw [Array.size_modify];exact Zw _) _ |>.alloc (by show w.heap.size≤((w.heap.modify _ _).push _).size;rw [O6,Array.size_modify];exact IP _) _).drew
 have tC:(w.setCell ⟨g,1,none⟩ (.int .i64 (ep+1))).heap.size=w.heap.size:=by show (w.heap.modify _ _).size=_;rw [Array.size_modify]
 have y2:((((w.setCell ⟨g,1,none⟩ (.int .i64 (ep+1))).alloc (.cells ((cs.set 0 (.int .i64 2)).set 2 (.int .i64 (ep+1))).toArray 100)).alloc (.cells Xv 100)).drew).heap[w.heap.size]?=some (.cells ((cs.set 0 (.int .i64 2)).set 2 (.int .i64 (ep+1))).toArray 100 (0,0)):=by
  show (((w.setCell ⟨g,1,none⟩ (.int .i64 (ep+1))).alloc (.cells ((cs.set 0 (.int .i64 2)).set 2 (.int .i64 (ep+1))).toArray 100)).alloc _).heap[w.heap.size]?=_
  rw [(Z' _ _).block _ (by show _<((w.setCell _ _).heap.push _).size;rw [O6,tC];exact Nat.lt_succ_self _),←tC]
  exact Z7 _ _
 have QV:((((w.setCell ⟨g,1,none⟩ (.int .i64 (ep+1))).alloc (.cells ((cs.set 0 (.int .i64 2)).set 2 (.int .i64 (ep+1))).toArray 100)).alloc (.cells Xv 100)).drew).heap[w.heap.size+1]?=some (.cells Xv 100 (0,0)):=by
  have h:=Z7 ((w.setCell ⟨g,1,none⟩ (.int .i64 (ep+1))).alloc (.cells ((cs.set 0 (.int .i64 2)).set 2 (.int .i64 (ep+1))).toArray 100)) (.cells Xv 100)
  have e:((w.setCell ⟨g,1,none⟩ (.int .i64 (ep+1))).alloc (.cells ((cs.set 0 (.int .i64 2)).set 2 (.int .i64 (ep+1))).toArray 100)).heap.size=w.heap.size+1:=by show ((w.setCell _ _).heap.push _).size=_;rw [O6,tC]
  rw [e] at h
  exact h
 have hgb1:((((w.setCell ⟨g,1,none⟩ (.int .i64 (ep+1))).alloc (.cells ((cs.set 0 (.int .i64 2)).set 2 (.int .i64 (ep+1))).toArray 100)).alloc (.cells Xv 100)).drew).heap[g]?=some (.cells #[c0,.int .i64 (ep+1)] 131 (0,0)):=by
  show (((w.setCell ⟨g,1,none⟩ (.int .i64 (ep+1))).alloc (.cells ((cs.set 0 (.int .i64 2)).set 2 (.int .i64 (ep+1))).toArray 100)).alloc _).heap[g]?=_
  rw [(Z' _ _).block _ (by show _<((w.setCell _ _).heap.push _).size;rw [O6,tC];omega),(Z' _ _).block _ (by rw [tC];exact Bz)]
  exact wW
 clear X_ XC VE c0' wW tC
 generalize (((w.setCell ⟨g,1,none⟩ (.int .i64 (ep+1))).alloc (.cells ((cs.set 0 (.int .i64 2)).set 2 (.int .i64 (ep+1))).toArray 100)).alloc (.cells Xv 100)).drew=w2 at *
 have Uh:=Zh hfr1
 have HGB:=Zh hgb1
 clear hfr1 hgb1
 generalize hcs2:(cs.set 0 (.int .i64 2)).set 2 (.int .i64 (ep+1))=km at *
 have HCS2:=Zh hcs2
 clear hcs2
 have hi:(Tryz.prog.info? 100).map (·.size)=some km.toArray.size:=by rw [List.size_toArray,hsz'];kernel_rfl
 have hold:(Xv:Array Value).size=km.toArray.size:=by rw [show km.toArray.size=22 by rw [List.size_toArray,hsz']];rfl
 have dW:g≠w.heap.size+1:=by omega
 go_wp2_with (first|(with_reducible refine Y8 100 (.tmp 3) rfl ?_;refine Y9 rfl 100 (.tmp 3) rfl w.heap.size rfl 100 km.toArray (0,0) _ y2 Tryz.underlying100 rfl hi ?_)|(with_reducible refine ZU 100 (.tmp 4) (.tmp 20) rfl ?_;refine ZW rfl 100 (.tmp 4) (.tmp 20) rfl rfl (w.heap.size+1) km.toArray rfl rfl 100 Xv QV hi hold Pr ?_))
 refine VJ (v:= .agg km.toArray) ?_ rfl ?_
 ·exact results_cell_row Zr _ _ (w.heap.size+1) 100 km.toArray (0,0) _ Zr (setRow_heap _ _ _ _ _ _ QV) Tryz.underlying100 rfl hi
 refine ⟨by rw [HCS2.o],?_,?_⟩
 ·rw [(TD w2 (w.heap.size+1) km.toArray).block g (ZV HGB.o) dW];exact HGB.o
 ·exact Mj Uh.o (IP _) km.toArray
end Go.Proofs.By
