/- Part of a proof. -/
import Derived.Test.YtpdjhlcbcomdkaaGreatDoorF0R
set_option linter.unusedVariables false
set_option linter.unusedSimpArgs false
set_option maxRecDepth 100000
set_option maxHeartbeats 16000000
open Go Go.Q Go.Qr
namespace Go.Proofs.By
open Go.RowKit Go.Proofs.Heap
theorem Z0 {B:Nat} {a w:World} (h:Below B a w) {g:Nat} (hg:B≤g) (c:Array Value):Below B a (w.setRow g c):=
 ⟨h.os,h.tape,h.output,by simpa [World.setRow] using h.size,fun k hk=>by rw [setRow_other w g k _ Zo];exact h.block k hk⟩
theorem ZA {B:Nat} {a w:World} (h:Below B a w) (hB:B≤a.heap.size) (o:Obj):Below B a (w.alloc o):=h.alloc (Rh hB h.size) o
theorem Yp {P:Program} {ops:Array Oper} {rest:List Oper} {o:Oper} {a:Act} {w:World} {Q:Exit→Act→World→Prop} (ty:TypeId) (x:Operand) (_:o.op = .load ty x) (h:wpList P ops Q (o :: rest) a w):wpList P ops Q (o :: rest) a w:=h
theorem Yd {P:Program} {ops:Array Oper} {rest:List Oper} {o:Oper} {a:Act} {w:World} {Q:Exit→Act→World→Prop} (Ld:o.guard=none) (ty:TypeId) (x:Operand) (ho:o.op = .load ty x)
  (g:Nat) (hx:a.eval x = .pointer (some ⟨g,0,none⟩)) (t:TypeId) (cs:Array Value) (fr:Nat × Nat) (d:TypeDesc) (hg:w.heap[g]?=some (.cells cs t fr))
  (hu:P.underlying ty=some d) (hd:(match d with | .struct _ | .array _ _=>true|_=>false)=true) (hi:(P.info? ty).map (·.size)=some cs.size)
  (h:wpList P ops Q rest (a.put o.dst (.agg cs)) w):wpList P ops Q (o :: rest) a w:=wpList_load_row Ld ty x ho g hx t cs fr d hg hu hd hi h
theorem wM (l:List Int) (x:Int):Zb (l++[x])=Zb l++[.int .u32 x]:=by simp [Zb]
theorem Pn {w:World} {a a':Option Addr} {c c' l h:Nat} {b:List UInt8} (hh:h≤b.length) (hl:l≤h) (Z7:∀ w xs,xs.length=b.length*1→Yf w (.slice a b.length c) b.length xs→Yf w (.slice a' (h-l) c') (h-l) ((xs.drop (l*1)).take ((h-l)*1))) (hv:Yn w (.slice a b.length c) b):Yn w (.slice a' (h-l) c') ((b.drop l).take (h-l)):=by
 have h1:=Z7 w (Sr b) (by rw [XI,Nat.mul_one]) hv
 rw [Nat.mul_one,Nat.mul_one,Rs,PC] at h1
 have h2:((b.drop l).take (h-l)).length=h-l:=by rw [TU,RU];omega
 unfold Yn
 rw [h2]
 exact h1
theorem wG (v:Value) (b:List UInt8) (w:World) (hv:Yn w v b) (h0:(looks b).2=0) :
  Calls Tryz.prog 125 #[v] w fun e w'=>(∃ a,e = .returned (.tuple #[a,.int .i64 (YY b).2])∧OW w' a (YY b).1)∧Below w w w':=by
 have HX:Hid (YY b=(Un b (looks b).1,0)):=by show _=_;unfold YY;rw [Z6 (by simp [h0])]
 have C:=fun w1 h=>BQ v b w1 (hv.below (h:Below w w w1))
 have HC:=Zh C
 have HV:Hid (∀ w',Below w w w'→Yn w' v b):=fun w' h=>hv.below h
 obtain ⟨l12,l512,l1,l2,l3,l4⟩:=sW h0
 obtain ⟨g,off,c,rfl,TH,vF,XS⟩:=SC hv Zo
 clear C hv XS
 generalize YY b=X at *
 generalize looks b=Y at *
 obtain ⟨⟨Y1,Y2,Y3⟩,Y4⟩:=Y
 obtain rfl:Y4=0:=h0
 dsimp only at l1 l2 l3 l4 HX HC
 have HN:Hid (∀ w',Below w w w'→∀ p q:Int,Calls Tryz.prog 153 #[(.slice (some ⟨g,off,none⟩) b.length c),.int .i64 p,.int .i64 q] w' fun e w''=>e = .returned (.int .u64 (get b p q:Nat))∧w'=w''):=fun w' h p q=>zx _ b p q w' (HV.o w' h)
 have HBY:Hid (∀ w',Below w w w'→w'.cell? ⟨g,off,none⟩=some (.int .u8 (at8 b 0:Int))∧w'.cell? ⟨g,off+1,none⟩=some (.int .u8 (at8 b 1:Int))):=fun w' h=>by
  obtain ⟨_,_,_,e,_,_,hc⟩:=SC (HV.o w' h) Zo
  cases e
  exact ⟨hc 0 Zo,hc 1 Zo⟩
 have uI:Hid (Un b (Y1,Y2,Y3)=⟨decide (128≤at8 b 1),(at8 b 1 % 128:Nat),get b 2 2,get b 4 4,get b 8 4,(List.range (at8 b 0 % 16)).map fun (i:Nat)=>((get b (12+4*(i:Int)) 4:Nat):Int),decide (at8 b 0 / 16 % 2=1),if at8 b 0 / 16 % 2=1 then (get b ((Y1:Int)-4) 2:Int) else 0,if at8 b 0 / 16 % 2=1 then (b.drop Y1).take (Y2-Y1) else [],(b.drop Y2).take (Y3-Y2),(b.length:Int)-(Y3:Int)⟩):=rfl
 have Ro:=XM b 0
 have Tm:=XM b 1
 have a128:=xh (at8 b 1) Tm
 have a127:=nI (at8 b 1) Tm
 have TC:=rf (at8 b 0) Ro
 have SA:=rh (at8 b 0) Ro
 have b0:get b 2 2<65536:=VI b 2 2 2 Zd
 have b1:get b 4 4<4294967296:=VI b 4 4 4 Zd
 have b2:get b 8 4<4294967296:=VI b 8 4 4 Zd
 have HM:Hid (decide (128≤at8 b 1)=(((at8 b 1 / 128 % 2*128:Nat):Int) != 0)):=by show _=_;rw [Bool.eq_iff_iff,NB,TF];omega
 have hT:at8 b 1 % 128<128:=Nat.mod_lt _ Zd
 have hm:at8 b 0 % 16<16:=Nat.mod_lt _ Zd
 have hE:at8 b 0 / 16 % 2<2:=Nat.mod_lt _ Zd
 generalize at8 b 1 / 128 % 2*128=M at *
 generalize at8 b 1 % 128=T at *
 generalize at8 b 0 % 16=m at *
 generalize at8 b 0 / 16 % 2=E at *
 have hTw:IntKind.i64.wrap (T:Int)=(T:Int):=Ua _ Zo
 have hmw:IntKind.i64.wrap (m:Int)=(m:Int):=Ua _ Zo
 have hLw:IntKind.i64.wrap ((b.length:Int)-(Y3:Int))=(b.length:Int)-(Y3:Int):=Ua _ Zo
 have eZ:(1:Int)<(b.length:Int):=by omega
 have bY:1<b.length:=by omega
 have hbI0:(0:Int)<(b.length:Int):=by omega
 have hbN0:0<b.length:=by omega
 have hbZ:¬b.length=0:=by omega
 have hq0w:IntKind.u16.wrap ((get b 2 2:Nat):Int)=((get b 2 2:Nat):Int):=by rw [IntKind.wrap_u16];omega
 have hq1w:IntKind.u32.wrap ((get b 4 4:Nat):Int)=((get b 4 4:Nat):Int):=by rw [NC];omega
 have hq2w:IntKind.u32.wrap ((get b 8 4:Nat):Int)=((get b 8 4:Nat):Int):=by rw [NC];omega
 have ei:=Zh TH
 clear b0 b1 b2 Ro Tm TH vF
 go_enter Tryz.func125,Tryz.ntmps125
 go_wp2_with fail
 refine (HC.o _ (Z' _ _)).mono ?_
 rintro e w2 ⟨rfl,Y0⟩
 clear HC
 have sj:=Y0.block w.heap.size DI
 rw [Z5] at sj
 have SG:w.heap.size+1≤w2.heap.size:=by have h:=Y0.size;have h:(w.heap.push _).size≤w2.heap.size:=h;rw [Rg] at h;exact h
 have iT:Below w w w2:=(Z' w _).trans (Y0.mono aq)
 have HRES:Hid ((w2.alloc (.cells (Qk (Y1:Int) (Y2:Int) (Y3:Int)) 238)).heap[w.heap.size]?=some (.cells Wi 79)):=((Z' w2 _).block _ Zo).trans sj
 have gz:Hid ((w2.alloc (.cells (Qk (Y1:Int) (Y2:Int) (Y3:Int)) 238)).heap[w2.heap.size]?=some (.cells (Qk (Y1:Int) (Y2:Int) (Y3:Int)) 238)):=Z5 _ _
 have T_:Hid (Below w w (w2.alloc (.cells (Qk (Y1:Int) (Y2:Int) (Y3:Int)) 238))):=ZA iT (ZB _) _
 have AA:w2.heap.size<(w2.alloc (.cells (Qk (Y1:Int) (Y2:Int) (Y3:Int)) 238)).heap.size:=by show _<(w2.heap.push _).size;rw [Rg];exact Nat.lt_succ_self _
 clear sj Y0 iT
 go_wp2_with fail
 generalize w2.alloc (.cells (Qk (Y1:Int) (Y2:Int) (Y3:Int)) 238)=w3 at *
 have Nk:w.heap.size<w2.heap.size:=by omega
 clear SG
 generalize w2.heap.size=s at *
 clear w2
 have OU:Hid (∀ w',Below w3 w3 w'→w'.cell? ⟨g,off+1,none⟩=some (.int .u8 (at8 b 1:Int))∧w'.cell? ⟨s,2,none⟩=some (.int .i64 (Y3:Int))∧Below w3 w3 w'):=fun w' h=>
  ⟨(HBY.o w' (T_.o.trans (h.mono (by have:=T_.o.size;omega)))).2,Zc ((h.block s AA).trans gz.o) 2 rfl,h⟩
 refine QN ?_
 refine wp_region_held_drew (S:=(fun w'=>w'.cell? ⟨g,off+1,none⟩=some (.int .u8 (at8 b 1:Int))∧w'.cell? ⟨s,2,none⟩=some (.int .i64 (Y3:Int))∧Below w3 w3 w')) Zg ?_ (fun Yb=>?_)
 ·(try dsimp only)
  exact OU.o _ (YG _ _).drew
 refine YA 0 (h:=YA 1 (h:=YA 2 (h:=YA 3 (h:=YA 4 (h:=YA 5 (h:=YA 6 (h:=YA 7 (h:=YA 8 (h:=YA 9 (h:=YA 10 (h:=YA 11 (h:=YA 12 (h:=YA 13 (h:=YA 14 (h:=YA 15 (h:=?_))))))))))))))))
 refine TR 16 (h:=fun K hK=>?_)
 go_simp
 refine hK.out _ _ ?_ (fun XX=>?_)
 ·exact kU
 clear hK K
 try simp only [Z3.pt]
 refine TR 17 (h:=fun K hK=>?_)
 refine RO Zr 79 (.tmp 6) (.tmp 32) Zr Zr w3.heap.size (Qb ((M:Int) != 0) (T:Int) 0 0 0 none 0 0 false 0 none 0 0 none 0 0 ((b.length:Int)-(Y3:Int))) Zr Zr 79 _ (Z5 w3.drew _) Zg Zg Zg ?_
 refine hK.out _ _ ?_ (fun Wo=>?_)
 ·exact kU
 clear hK K
 try simp only [Z3.pt]
 refine wpAnyH_done Zg ?_ _
 refine Py ?_
 have Hh:Hid (PK w ((w3.alloc (.cells Wi 79)).drew.setRow w3.heap.size (Qb ((M:Int) != 0) (T:Int) 0 0 0 none 0 0 false 0 none 0 0 none 0 0 ((b.length:Int)-(Y3:Int)))) s w3.heap.size (Qk (Y1:Int) (Y2:Int) (Y3:Int)) (Qb ((M:Int) != 0) (T:Int) 0 0 0 none 0 0 false 0 none 0 0 none 0 0 ((b.length:Int)-(Y3:Int)))):=
  (PK.mk (cs:=Yz3) (ZA T_.o.drew (ZB _) _) (((Z' w3.drew _).block _ (show w.heap.size<w3.heap.size by omega)).trans HRES.o) (((Z' w3.drew _).block _ AA).trans gz.o) (Z5 w3.drew _) ⟨Nk,AA⟩).row (Qb ((M:Int) != 0) (T:Int) 0 0 0 none 0 0 false 0 none 0 0 none 0 0 ((b.length:Int)-(Y3:Int)))
 clear OU HRES gz T_ Yb XX Wo
 generalize (w3.alloc (.cells Wi 79)).drew.setRow w3.heap.size (Qb ((M:Int) != 0) (T:Int) 0 0 0 none 0 0 false 0 none 0 0 none 0 0 ((b.length:Int)-(Y3:Int)))=w5 at *
 have hs4:s<w3.heap.size:=AA
 clear AA
 generalize w3.heap.size=p at *
 clear w3
 have QI:=Zh Hh.o.YI
 have u2:w5.cell? ⟨p,2,none⟩=some (.int .u16 0):=Hh.o.cell 2
 have u3:w5.cell? ⟨p,3,none⟩=some (.int .u32 0):=Hh.o.cell 3
 have u4:w5.cell? ⟨p,4,none⟩=some (.int .u32 0):=Hh.o.cell 4
 have f2:=Hh.o.frozen 2
 have f3:=Hh.o.frozen 3
 have f4:=Hh.o.frozen 4
 go_upto_region 6 with (go_at_call 153;refine (HN.o _ QI.o _ _).mono ?_;rintro e w' ⟨rfl,rfl⟩)
 have gp:Hid (PK w (((w5.setCell ⟨p,2,none⟩ (.int .u16 ((get b 2 2:Nat):Int))).setCell ⟨p,3,none⟩ (.int .u32 ((get b 4 4:Nat):Int))).setCell ⟨p,4,none⟩ (.int .u32 ((get b 8 4:Nat):Int))) s p (Qk (Y1:Int) (Y2:Int) (Y3:Int)) (Qb ((M:Int) != 0) (T:Int) ((get b 2 2:Nat):Int) ((get b 4 4:Nat):Int) ((get b 8 4:Nat):Int) none 0 0 false 0 none 0 0 none 0 0 ((b.length:Int)-(Y3:Int)))):=((Hh.o.set 2 (.int .u16 ((get b 2 2:Nat):Int))).set 3 (.int .u32 ((get b 4 4:Nat):Int))).set 4 (.int .u32 ((get b 8 4:Nat):Int))
 clear Hh QI u2 u3 u4 f2 f3 f4
 generalize ((w5.setCell ⟨p,2,none⟩ (.int .u16 ((get b 2 2:Nat):Int))).setCell ⟨p,3,none⟩ (.int .u32 ((get b 4 4:Nat):Int))).setCell ⟨p,4,none⟩ (.int .u32 ((get b 8 4:Nat):Int))=w6 at *
 clear w5 hq0w hq1w hq2w hTw hLw
 generalize hg0:get b 2 2=q0 at *
 generalize hg1:get b 4 4=q1 at *
 generalize rY:get b 8 4=q2 at *
 have HG0:=Zh hg0
 have Pt:=Zh hg1
 have Li:=Zh rY
 clear hg0 hg1 rY
 obtain ⟨d0,d1⟩:=HBY.o _ gp.o.YI
 clear d1
 go_upto_region 7 with fail
 have HPL0:Hid (PL w w6 s p (Qk (Y1:Int) (Y2:Int) (Y3:Int)) (Qb ((M:Int) != 0) (T:Int) (q0:Int) (q1:Int) (q2:Int) none 0 0 false 0 none 0 0 none 0 0 ((b.length:Int)-(Y3:Int))) (.slice none 0 0) 0 (Zb ((List.range 0).map fun (i:Nat)=>((get b (12+4*(i:Int)) 4:Nat):Int)))):=⟨gp.o,Us _ _ _ _⟩
 clear gp d0
 go_loopw [50] (fun i w'=>∃ (j:Nat) (cv:Value),j≤m∧i = .int .i64 (j:Int)∧PL w w' s p (Qk (Y1:Int) (Y2:Int) (Y3:Int)) [.bool ((M:Int) != 0),.int .i64 (T:Int),.int .u16 (q0:Int),.int .u32 (q1:Int),.int .u32 (q2:Int),cv,.bool false,.int .u16 0,.slice none 0 0,.slice none 0 0,.int .i64 ((b.length:Int)-(Y3:Int))] cv j (Zb ((List.range j).map fun (i:Nat)=>((get b (12+4*(i:Int)) 4:Nat):Int)))) (fun i _=>m-(intOf i).toNat)
 case atStart=>exact ⟨0,_,TS _,rfl,HPL0.o⟩
 case round=>
  clear HPL0
  obtain ⟨j,cv,hj,rfl,sf⟩:=hrel
  obtain ⟨Ox,Oy,rfl,-,-⟩:=Row.ZV sf.own
  have Dd:=Zh sf
  clear sf
  by_cases Bu:j<m
  ·have mR:Hid (PL w wr.drew s p (Qk (Y1:Int) (Y2:Int) (Y3:Int)) (Qb ((M:Int) != 0) (T:Int) (q0:Int) (q1:Int) (q2:Int) Ox j Oy false 0 none 0 0 none 0 0 ((b.length:Int)-(Y3:Int))) (.slice Ox j Oy) j (Zb ((List.range j).map fun (i:Nat)=>((get b (12+4*(i:Int)) 4:Nat):Int)))):=⟨Dd.o.pk.drew,Dd.o.own⟩
   have c5:wr.cell? ⟨p,5,none⟩=some (.slice Ox j Oy):=Dd.o.pk.cell 5
   have sf:p<wr.heap.size:=Dd.o.pk.zn
   have C9:=Zh (HN.o wr.drew mR.o.pk.YI (12+4*(j:Int)) 4)
   have FB:get b (12+4*(j:Int)) 4<4294967296:=VI b _ 4 4 Zd
   obtain ⟨xs,Jw⟩:∃ xs,xs=Zb ((List.range j).map fun (i:Nat)=>((get b (12+4*(i:Int)) 4:Nat):Int)):=⟨_,rfl⟩
   rw [←Jw] at Dd mR
   have HXS:=Zh Jw
   clear Jw
   generalize uz:get b (12+4*(j:Int)) 4=x at *
   have E0:=Zh uz
   clear uz
   have JW:Hid (PL w (wr.alloc (.cells #[.int .u32 (x:Int)] 66)).drew s p (Qk (Y1:Int) (Y2:Int) (Y3:Int)) (Qb ((M:Int) != 0) (T:Int) (q0:Int) (q1:Int) (q2:Int) Ox j Oy false 0 none 0 0 none 0 0 ((b.length:Int)-(Y3:Int))) (.slice Ox j Oy) j xs):=⟨Dd.o.pk.below (Z' _ _).drew,X9 Dd.o.own (Z' _ _).drew⟩
   have dI:IntKind.i64.wrap (4*(j:Int))=4*(j:Int):=Ua _ Zo
   have fC:IntKind.i64.wrap (12+4*(j:Int))=12+4*(j:Int):=Ua _ Zo
   have hxw:IntKind.u32.wrap (x:Int)=(x:Int):=by rw [NC];omega
   go_upto_region 9 with fail
   refine QN ?_
   refine wp_region_held_drew (S:=(fun w'=>Below w w w')) Zg ?_ (fun Yb=>?_)
   ·(try dsimp only)
    exact mR.o.pk.YI
   refine YA 0 (h:=YA 2 (h:=YA 3 (h:=YA 4 (h:=YA 5 (h:=?_)))))
   refine wpAnyH_ready (rs:=[1,6]) Zg Zi ?_
   refine AllReadyH.cons (i:=1) rfl (fun K hK=>?_) ?_
   ·skip
    go_simp
    refine hK.out _ _ ?_ (fun XX=>?_)
    ·exact xg
    clear hK K
    try simp only [Z3.pt]
    refine TR 6 (h:=fun K hK=>?_)
    go_simp
    refine C9.o.mono ?_
    rintro e w' ⟨rfl,rfl⟩
    go_wp2_with fail
    refine hK.out _ _ ?_ (fun Wo=>?_)
    ·exact xg
    clear hK K
    try simp only [Z3.pt]
    refine YA 7 (h:=?_)
    refine TR 8 (h:=fun K hK=>?_)
    go_simp
    refine hK.out _ _ ?_ (fun Oc=>?_)
    ·exact xg
    clear hK K
    try simp only [Z3.pt]
    refine TR 9 (h:=fun K hK=>?_)
    refine Zw Zr (.tmp 54) (.tmp 61) 29 Zr (p+1) V4 (.slice Ox j Oy) j xs Zr JW.o.own (.slice (some ⟨wr,0,none⟩) 1 1) 1 [.int .u32 (x:Int)] Zr (UJ wr 66 1 [.int .u32 (x:Int)] Zd) rfl (by intro u hu;simp at hu;subst hu;rfl) Zo Zo (by show _≤(wr.heap.push _).size;rw [Rg];omega) ?_
    intro v' w5 HO HG
    obtain ⟨va,vc,sJ,-,-⟩:=Row.ZV HO.o
    subst sJ
    have ug:=Zh (JW.o.grown HG.o)
    have c55:w5.cell? ⟨p,5,none⟩=some (.slice Ox j Oy):=ug.o.cell 5
    have f55:=ug.o.frozen 5
    refine hK.out _ _ ?_ (fun H_=>?_)
    ·exact xg
    clear hK K
    try simp only [Z3.pt]
    refine YA 10 (h:=?_)
    refine TR 11 (h:=fun K hK=>?_)
    go_simp
    have HP6:=Zh (ug.o.set 5 (.slice va (j+1) vc))
    have EX:=Zh (VK HO.o (b:=p) (o:=5) (Nat.lt_succ_self _) (.slice va (j+1) vc))
    refine hK.out _ _ ?_ (fun D_=>?_)
    ·exact xg
    exact g_
   refine AllReadyH.cons (i:=6) rfl (fun K hK=>?_) AllReadyH.nil
   go_simp
   refine C9.o.mono ?_
   rintro e w' ⟨rfl,rfl⟩
   go_wp2_with fail
   refine hK.out _ _ ?_ (fun rM=>?_)
   ·exact xg
   clear hK K
   try simp only [Z3.pt]
   refine YA 7 (h:=?_)
   refine wpAnyH_ready (rs:=[1,8]) Zg Zi ?_
   refine AllReadyH.cons (i:=1) rfl (fun K hK=>?_) ?_
   ·skip
    go_simp
    refine hK.out _ _ ?_ (fun iO=>?_)
    ·exact xg
    clear hK K
    try simp only [Z3.pt]
    refine TR 8 (h:=fun K hK=>?_)
    go_simp
    refine hK.out _ _ ?_ (fun iP=>?_)
    ·exact xg
    clear hK K
    try simp only [Z3.pt]
    refine TR 9 (h:=fun K hK=>?_)
    refine Zw Zr (.tmp 54) (.tmp 61) 29 Zr (p+1) V4 (.slice Ox j Oy) j xs Zr JW.o.own (.slice (some ⟨wr,0,none⟩) 1 1) 1 [.int .u32 (x:Int)] Zr (UJ wr 66 1 [.int .u32 (x:Int)] Zd) rfl (by intro u hu;simp at hu;subst hu;rfl) Zo Zo (by show _≤(wr.heap.push _).size;rw [Rg];omega) ?_
    intro v' w5 HO HG
    obtain ⟨va,vc,sJ,-,-⟩:=Row.ZV HO.o
    subst sJ
    have ug:=Zh (JW.o.grown HG.o)
    have c55:w5.cell? ⟨p,5,none⟩=some (.slice Ox j Oy):=ug.o.cell 5
    have f55:=ug.o.frozen 5
    refine hK.out _ _ ?_ (fun iQ=>?_)
    ·exact xg
    clear hK K
    try simp only [Z3.pt]
    refine YA 10 (h:=?_)
    refine TR 11 (h:=fun K hK=>?_)
    go_simp
    have HP6:=Zh (ug.o.set 5 (.slice va (j+1) vc))
    have EX:=Zh (VK HO.o (b:=p) (o:=5) (Nat.lt_succ_self _) (.slice va (j+1) vc))
    refine hK.out _ _ ?_ (fun nY=>?_)
    ·exact xg
    exact g_
   refine AllReadyH.cons (i:=8) rfl (fun K hK=>?_) AllReadyH.nil
   go_simp
   refine hK.out _ _ ?_ (fun nZ=>?_)
   ·exact xg
   clear hK K
   try simp only [Z3.pt]
   refine TR 1 (h:=fun K hK=>?_)
   go_simp
   refine hK.out _ _ ?_ (fun n7=>?_)
   ·exact xg
   clear hK K
   try simp only [Z3.pt]
   refine TR 9 (h:=fun K hK=>?_)
   refine Zw Zr (.tmp 54) (.tmp 61) 29 Zr (p+1) V4 (.slice Ox j Oy) j xs Zr JW.o.own (.slice (some ⟨wr,0,none⟩) 1 1) 1 [.int .u32 (x:Int)] Zr (UJ wr 66 1 [.int .u32 (x:Int)] Zd) rfl (by intro u hu;simp at hu;subst hu;rfl) Zo Zo (by show _≤(wr.heap.push _).size;rw [Rg];omega) ?_
   intro v' w5 HO HG
   obtain ⟨va,vc,sJ,-,-⟩:=Row.ZV HO.o
   subst sJ
   have ug:=Zh (JW.o.grown HG.o)
   have c55:w5.cell? ⟨p,5,none⟩=some (.slice Ox j Oy):=ug.o.cell 5
   have f55:=ug.o.frozen 5
   refine hK.out _ _ ?_ (fun n9=>?_)
   ·exact xg
   clear hK K
   try simp only [Z3.pt]
   refine YA 10 (h:=?_)
   refine TR 11 (h:=fun K hK=>?_)
   go_simp
   have HP6:=Zh (ug.o.set 5 (.slice va (j+1) vc))
   have EX:=Zh (VK HO.o (b:=p) (o:=5) (Nat.lt_succ_self _) (.slice va (j+1) vc))
   refine hK.out _ _ ?_ (fun n_=>?_)
   ·exact xg
   exact g_
  ·obtain rfl:j=m:=by omega
   obtain ⟨CL,hCL⟩:∃ CL,CL=(List.range j).map fun (i:Nat)=>((get b (12+4*(i:Int)) 4:Nat):Int):=⟨_,rfl⟩
   have MQ:CL.length=j:=by rw [hCL,UM,List.length_range]
   rw [←hCL] at Dd uI
   have JJ:Hid (PR w wr s p (Qk (Y1:Int) (Y2:Int) (Y3:Int)) (Qb ((M:Int) != 0) (T:Int) (q0:Int) (q1:Int) (q2:Int) Ox j Oy false 0 none 0 0 none 0 0 ((b.length:Int)-(Y3:Int))) (.slice Ox j Oy) (.slice none 0 0) (.slice none 0 0) CL [] []):=⟨Dd.o.pk,by rw [MQ];exact Row.ZV Dd.o.own,Row.nil _ _,Row.nil _ _⟩
   have HCLE:=Zh MQ
   clear Dd hCL MQ Bu hj
   obtain ⟨d0,d1⟩:=HBY.o _ JJ.o.pk.YI
   clear d1
   have mh:p<wr.heap.size:=JJ.o.pk.zn
   obtain hE0|hE1:E=0∨E=1:=by omega
   ·subst hE0
    rw [Nat.zero_mul] at SA
    go_upto_region 13 with fail
    have sc1:wr.cell? ⟨s,1,none⟩=some (.int .i64 (Y2:Int)):=JJ.o.pk.RJ 1
    have sc2:wr.cell? ⟨s,2,none⟩=some (.int .i64 (Y3:Int)):=JJ.o.pk.RJ 2
    obtain ⟨a',U4,Z7⟩:=WR (P:=Tryz.prog) Wn (some ⟨g,off,none⟩) b.length c Y2 Y3 l3 l4 ei.o
    have si:((b.drop Y2).take (Y3-Y2)).length=Y3-Y2:=by rw [TU,RU];omega
    have wT:=Zh (MB _ ((b.drop Y2).take (Y3-Y2)) wr (Pn l4 l3 Z7 (HV.o _ JJ.o.pk.YI)) (by rw [si];omega))
    rw [si] at wT
    clear Z7 si
    obtain ⟨PY,iR⟩:∃ PY,PY=(b.drop Y2).take (Y3-Y2):=⟨_,rfl⟩
    rw [←iR] at wT uI
    have HPY:=Zh iR
    clear iR
    go_upto_region 14 with (go_at_call 154;refine wT.o.mono ?_;rintro e tY ⟨⟨pv,rfl,vH⟩,rT⟩;obtain ⟨pa,pc,NR,-,-⟩:=id vH;subst NR;have TM:=Zh (JJ.o.below rT);have qx:=Zh vH;clear vH rT;have c9:tY.cell? ⟨p,9,none⟩=some (.slice none 0 0):=TM.o.pk.cell 9;have f9:=TM.o.pk.frozen 9)
    have Hh:Hid (PK w (tY.setCell ⟨p,9,none⟩ (.slice pa (Y3-Y2) pc)) s p (Qk (Y1:Int) (Y2:Int) (Y3:Int)) (Qb ((M:Int) != 0) (T:Int) (q0:Int) (q1:Int) (q2:Int) Ox j Oy false 0 none 0 0 pa (Y3-Y2) pc ((b.length:Int)-(Y3:Int)))):=TM.o.pk.set 9 (.slice pa (Y3-Y2) pc)
    have MC:=Zh (TM.o.bK.setCell (p:=⟨p,9,none⟩) TM.o.pk.Y8 Zd (.slice pa (Y3-Y2) pc))
    have uh:=Zh (TM.o.exr.setCell (p:=⟨p,9,none⟩) TM.o.pk.Y8 Zd (.slice pa (Y3-Y2) pc))
    have yx:=Zh (qx.o.setCell (p:=⟨p,9,none⟩) TM.o.pk.Y8 Zd (.slice pa (Y3-Y2) pc))
    clear JJ TM qx wT c9 f9 sc1 sc2 U4
    generalize tY.setCell ⟨p,9,none⟩ (.slice pa (Y3-Y2) pc)=wO at *
    clear tY
    have PQ:wO.heap[p]?=some (.cells (Qb ((M:Int) != 0) (T:Int) (q0:Int) (q1:Int) (q2:Int) Ox j Oy false 0 none 0 0 pa (Y3-Y2) pc ((b.length:Int)-(Y3:Int))) 79 (0,0)):=Hh.o.Y8
    have LQ:wO.heap[w.heap.size]?=some (.cells Wi 79 (0,0)):=Hh.o.res
    go_wp2_with (first|(with_reducible refine Yp 79 (.tmp 6) rfl ?_;refine Yd rfl 79 (.tmp 6) rfl p rfl 79 (Qb ((M:Int) != 0) (T:Int) (q0:Int) (q1:Int) (q2:Int) Ox j Oy false 0 none 0 0 pa (Y3-Y2) pc ((b.length:Int)-(Y3:Int))) (0,0) _ PQ Tryz.underlying79 rfl Zg ?_)|(with_reducible refine ZY 79 (.tmp 2) (.tmp 94) rfl ?_;refine ZW rfl 79 (.tmp 2) (.tmp 94) rfl rfl w.heap.size (Qb ((M:Int) != 0) (T:Int) (q0:Int) (q1:Int) (q2:Int) Ox j Oy false 0 none 0 0 pa (Y3-Y2) pc ((b.length:Int)-(Y3:Int))) rfl rfl 79 _ LQ Zg Zg Zg ?_))
    have y0:=setRow_heap wO w.heap.size _ (Qb ((M:Int) != 0) (T:Int) (q0:Int) (q1:Int) (q2:Int) Ox j Oy false 0 none 0 0 pa (Y3-Y2) pc ((b.length:Int)-(Y3:Int))) 79 (0,0) LQ
    have z0:=cell_of y0 0
    have z1:=cell_of y0 1
    have z2:=cell_of y0 2
    have z3:=cell_of y0 3
    have z4:=cell_of y0 4
    have z5:=cell_of y0 5
    have z6:=cell_of y0 6
    have z7:=cell_of y0 7
    have z8:=cell_of y0 8
    have z9:=cell_of y0 9
    have tZ:=cell_of y0 10
    simp only [R9,R8,RT] at z0 z1 z2 z3 z4 z5 z6 z7 z8 z9 tZ
    refine VR (v:= .tuple (Qn (Qb ((M:Int) != 0) (T:Int) (q0:Int) (q1:Int) (q2:Int) Ox j Oy false 0 none 0 0 pa (Y3-Y2) pc ((b.length:Int)-(Y3:Int))) 0)) (by simp [results,Tryz.results125,go_sem,z0,z1,z2,z3,z4,z5,z6,z7,z8,z9,tZ]) rfl ⟨⟨_,by rw [HX.o],?_⟩,?_⟩
    ·rw [HX.o]
     show OW _ _ (Un b (Y1,Y2,Y3))
     rw [uI.o,HM.o]
     refine ⟨.slice Ox j Oy,.slice none 0 0,.slice pa (Y3-Y2) pc,rfl,Row.setRow MC.o LQ Zd _,Row.setRow uh.o LQ Zd _,?_⟩
     have h:=Row.setRow yx.o LQ Zd (Qb ((M:Int) != 0) (T:Int) (q0:Int) (q1:Int) (q2:Int) Ox j Oy false 0 none 0 0 pa (Y3-Y2) pc ((b.length:Int)-(Y3:Int)))
     rw [show Y3-Y2=PY.length by rw [HPY.o,TU,RU];omega] at h ⊢
     exact h
    ·exact Z0 Hh.o.YI (ZB _) _
   ·subst hE1
    rw [Nat.one_mul] at SA
    go_upto_region 12 with fail
    have sc0:wr.cell? ⟨s,0,none⟩=some (.int .i64 (Y1:Int)):=JJ.o.pk.RJ 0
    have yB:Hid (∀ w',Below wr wr w'→w'.cell? ⟨s,0,none⟩=some (.int .i64 (Y1:Int))∧w'.cell? ⟨s,1,none⟩=some (.int .i64 (Y2:Int))∧Below w w w'):=fun w' h=>⟨(JJ.o.below h).pk.RJ 0,(JJ.o.below h).pk.RJ 1,(JJ.o.below h).pk.YI⟩
    obtain ⟨a',U4,Z7⟩:=WR (P:=Tryz.prog) Wn (some ⟨g,off,none⟩) b.length c Y1 Y2 l2 Zo ei.o
    have si:((b.drop Y1).take (Y2-Y1)).length=Y2-Y1:=by rw [TU,RU];omega
    have wT:=Zh (MB _ ((b.drop Y1).take (Y2-Y1)) wr.drew (Pn Zo l2 Z7 (HV.o _ JJ.o.pk.YI.drew)) (by rw [si];omega))
    rw [si] at wT
    clear Z7 si d0 sc0
    obtain ⟨ES,hES⟩:∃ ES,ES=(b.drop Y1).take (Y2-Y1):=⟨_,rfl⟩
    have lG:ES.length=Y2-Y1:=by rw [hES,TU,RU];omega
    rw [←hES] at wT uI
    have HEL:=Zh lG
    clear hES lG
    have hw4:IntKind.i64.wrap ((Y1:Int)-4)=(Y1:Int)-4:=Ua _ Zo
    have Fx:get b ((Y1:Int)-4) 2<65536:=VI b _ 2 2 Zd
    have CNP:=Zh (HN.o wr.drew JJ.o.pk.YI.drew ((Y1:Int)-4) 2)
    generalize get b ((Y1:Int)-4) 2=pf at *
    have hpw:IntKind.u16.wrap (pf:Int)=(pf:Int):=by rw [IntKind.wrap_u16];omega
    clear Fx
    refine QN ?_
    refine wp_region_held_drew (S:=(fun w'=>w'.cell? ⟨s,0,none⟩=some (.int .i64 (Y1:Int))∧w'.cell? ⟨s,1,none⟩=some (.int .i64 (Y2:Int))∧Below w w w')) Zg ?_ (fun Yb=>?_)
    ·(try dsimp only)
     exact yB.o _ (YG _ _).drew
    refine YA 0 (h:=YA 1 (h:=YA 2 (h:=YA 3 (h:=YA 6 (h:=YA 7 (h:=YA 8 (h:=YA 9 (h:=YA 10 (h:=YA 11 (h:=YA 13 (h:=?_)))))))))))
    refine TR 4 (h:=fun K hK=>?_)
    go_simp
    refine CNP.o.mono ?_
    rintro e w' ⟨rfl,rfl⟩
    go_wp2_with fail
    refine hK.out _ _ ?_ (fun XX=>?_)
    ·exact qQ
    clear hK K
    try simp only [Z3.pt]
    refine YA 5 (h:=?_)
    refine TR 12 (h:=fun K hK=>?_)
    go_simp
    refine wT.o.mono ?_
    rintro e w8 ⟨⟨ev,rfl,SE⟩,oq⟩
    obtain ⟨ea,ec,Ed,-,-⟩:=id SE
    subst Ed
    go_wp2_with fail
    have KD:=Zh ((JJ.o.drew).below oq)
    have HER:=Zh SE
    clear SE
    have v6:w8.cell? ⟨p,6,none⟩=some (.bool false):=KD.o.pk.cell 6
    have v7:w8.cell? ⟨p,7,none⟩=some (.int .u16 0):=KD.o.pk.cell 7
    have v8:w8.cell? ⟨p,8,none⟩=some (.slice none 0 0):=KD.o.pk.cell 8
    have g6:=KD.o.pk.frozen 6
    have g7:=KD.o.pk.frozen 7
    have g8:=KD.o.pk.frozen 8
    have hp8:p<w8.heap.size:=KD.o.pk.zn
    have k0:=KD.o.pk.RJ 0
    have k1:=KD.o.pk.RJ 1
    refine hK.out _ _ ?_ (fun Wo=>?_)
    ·exact qQ
    clear hK K
    try simp only [Z3.pt]
    refine TR 14 (h:=fun K hK=>?_)
    go_simp
    have UK:=Zh (KD.o.set 6 (.bool true))
    refine hK.out _ _ ?_ (fun Oc=>?_)
    ·exact qQ
    clear hK K
    try simp only [Z3.pt]
    refine YA 15 (h:=?_)
    refine TR 16 (h:=fun K hK=>?_)
    go_simp
    have QJ:=Zh (UK.o.set 7 (.int .u16 (pf:Int)))
    refine hK.out _ _ ?_ (fun H_=>?_)
    ·exact qQ
    clear hK K
    try simp only [Z3.pt]
    refine YA 17 (h:=?_)
    refine TR 18 (h:=fun K hK=>?_)
    go_simp
    have mS:=Zh (QJ.o.set 8 (.slice ea (Y2-Y1) ec))
    refine hK.out _ _ ?_ (fun D_=>?_)
    ·exact qQ
    clear hK K
    try simp only [Z3.pt]
    refine wpAnyH_done Zg ?_ _
    refine Py ?_
    have HER3:=Zh (((HER.o.setCell (p:=⟨p,6,none⟩) KD.o.pk.Y8 Zd (.bool true)).setCell (p:=⟨p,7,none⟩) UK.o.pk.Y8 Zd (.int .u16 (pf:Int))).setCell (p:=⟨p,8,none⟩) QJ.o.pk.Y8 Zd (.slice ea (Y2-Y1) ec))
    have HPRE:Hid (PR w (((w8.setCell ⟨p,6,none⟩ (.bool true)).setCell ⟨p,7,none⟩ (.int .u16 (pf:Int))).setCell ⟨p,8,none⟩ (.slice ea (Y2-Y1) ec)) s p (Qk (Y1:Int) (Y2:Int) (Y3:Int)) (Qb ((M:Int) != 0) (T:Int) (q0:Int) (q1:Int) (q2:Int) Ox j Oy true (pf:Int) ea (Y2-Y1) ec none 0 0 ((b.length:Int)-(Y3:Int))) (.slice Ox j Oy) (.slice ea (Y2-Y1) ec) (.slice none 0 0) CL ES []):=⟨mS.o.pk,mS.o.bK,by rw [HEL.o];exact HER3.o,Row.nil _ _⟩
    clear KD UK QJ mS HER HER3 v6 v7 v8 g6 g7 g8 hp8 k0 k1 yB JJ CNP wT U4 hw4 hpw mh Yb XX Wo Oc H_ D_ oq
    generalize ((w8.setCell ⟨p,6,none⟩ (.bool true)).setCell ⟨p,7,none⟩ (.int .u16 (pf:Int))).setCell ⟨p,8,none⟩ (.slice ea (Y2-Y1) ec)=w9 at *
    clear w8
    have JJ:=HPRE
    clear HPRE
    obtain ⟨d0,-⟩:=HBY.o _ JJ.o.pk.YI
    have mh:p<w9.heap.size:=JJ.o.pk.zn
    go_upto_region 13 with fail
    have sc1:w9.cell? ⟨s,1,none⟩=some (.int .i64 (Y2:Int)):=JJ.o.pk.RJ 1
    have sc2:w9.cell? ⟨s,2,none⟩=some (.int .i64 (Y3:Int)):=JJ.o.pk.RJ 2
    obtain ⟨a',U4,Z7⟩:=WR (P:=Tryz.prog) Wn (some ⟨g,off,none⟩) b.length c Y2 Y3 l3 l4 ei.o
    have si:((b.drop Y2).take (Y3-Y2)).length=Y3-Y2:=by rw [TU,RU];omega
    have wT:=Zh (MB _ ((b.drop Y2).take (Y3-Y2)) w9 (Pn l4 l3 Z7 (HV.o _ JJ.o.pk.YI)) (by rw [si];omega))
    rw [si] at wT
    clear Z7 si
    obtain ⟨PY,iR⟩:∃ PY,PY=(b.drop Y2).take (Y3-Y2):=⟨_,rfl⟩
    rw [←iR] at wT uI
    have HPY:=Zh iR
    clear iR
    go_upto_region 14 with (go_at_call 154;refine wT.o.mono ?_;rintro e tY ⟨⟨pv,rfl,vH⟩,rT⟩;obtain ⟨pa,pc,NR,-,-⟩:=id vH;subst NR;have TM:=Zh (JJ.o.below rT);have qx:=Zh vH;clear vH rT;have c9:tY.cell? ⟨p,9,none⟩=some (.slice none 0 0):=TM.o.pk.cell 9;have f9:=TM.o.pk.frozen 9)
    have Hh:Hid (PK w (tY.setCell ⟨p,9,none⟩ (.slice pa (Y3-Y2) pc)) s p (Qk (Y1:Int) (Y2:Int) (Y3:Int)) (Qb ((M:Int) != 0) (T:Int) (q0:Int) (q1:Int) (q2:Int) Ox j Oy true (pf:Int) ea (Y2-Y1) ec pa (Y3-Y2) pc ((b.length:Int)-(Y3:Int)))):=TM.o.pk.set 9 (.slice pa (Y3-Y2) pc)
    have MC:=Zh (TM.o.bK.setCell (p:=⟨p,9,none⟩) TM.o.pk.Y8 Zd (.slice pa (Y3-Y2) pc))
    have uh:=Zh (TM.o.exr.setCell (p:=⟨p,9,none⟩) TM.o.pk.Y8 Zd (.slice pa (Y3-Y2) pc))
    have yx:=Zh (qx.o.setCell (p:=⟨p,9,none⟩) TM.o.pk.Y8 Zd (.slice pa (Y3-Y2) pc))
    clear JJ TM qx wT c9 f9 sc1 sc2 U4
    generalize tY.setCell ⟨p,9,none⟩ (.slice pa (Y3-Y2) pc)=wO at *
    clear tY
    have PQ:wO.heap[p]?=some (.cells (Qb ((M:Int) != 0) (T:Int) (q0:Int) (q1:Int) (q2:Int) Ox j Oy true (pf:Int) ea (Y2-Y1) ec pa (Y3-Y2) pc ((b.length:Int)-(Y3:Int))) 79 (0,0)):=Hh.o.Y8
    have LQ:wO.heap[w.heap.size]?=some (.cells Wi 79 (0,0)):=Hh.o.res
    go_wp2_with (first|(with_reducible refine Yp 79 (.tmp 6) rfl ?_;refine Yd rfl 79 (.tmp 6) rfl p rfl 79 (Qb ((M:Int) != 0) (T:Int) (q0:Int) (q1:Int) (q2:Int) Ox j Oy true (pf:Int) ea (Y2-Y1) ec pa (Y3-Y2) pc ((b.length:Int)-(Y3:Int))) (0,0) _ PQ Tryz.underlying79 rfl Zg ?_)|(with_reducible refine ZY 79 (.tmp 2) (.tmp 94) rfl ?_;refine ZW rfl 79 (.tmp 2) (.tmp 94) rfl rfl w.heap.size (Qb ((M:Int) != 0) (T:Int) (q0:Int) (q1:Int) (q2:Int) Ox j Oy true (pf:Int) ea (Y2-Y1) ec pa (Y3-Y2) pc ((b.length:Int)-(Y3:Int))) rfl rfl 79 _ LQ Zg Zg Zg ?_))
    have y0:=setRow_heap wO w.heap.size _ (Qb ((M:Int) != 0) (T:Int) (q0:Int) (q1:Int) (q2:Int) Ox j Oy true (pf:Int) ea (Y2-Y1) ec pa (Y3-Y2) pc ((b.length:Int)-(Y3:Int))) 79 (0,0) LQ
    have z0:=cell_of y0 0
    have z1:=cell_of y0 1
    have z2:=cell_of y0 2
    have z3:=cell_of y0 3
    have z4:=cell_of y0 4
    have z5:=cell_of y0 5
    have z6:=cell_of y0 6
    have z7:=cell_of y0 7
    have z8:=cell_of y0 8
    have z9:=cell_of y0 9
    have tZ:=cell_of y0 10
    simp only [R9,R8,RT] at z0 z1 z2 z3 z4 z5 z6 z7 z8 z9 tZ
    refine VR (v:= .tuple (Qn (Qb ((M:Int) != 0) (T:Int) (q0:Int) (q1:Int) (q2:Int) Ox j Oy true (pf:Int) ea (Y2-Y1) ec pa (Y3-Y2) pc ((b.length:Int)-(Y3:Int))) 0)) (by simp [results,Tryz.results125,go_sem,z0,z1,z2,z3,z4,z5,z6,z7,z8,z9,tZ]) rfl ⟨⟨_,by rw [HX.o],?_⟩,?_⟩
    ·rw [HX.o]
     show OW _ _ (Un b (Y1,Y2,Y3))
     rw [uI.o,HM.o]
     refine ⟨.slice Ox j Oy,.slice ea (Y2-Y1) ec,.slice pa (Y3-Y2) pc,rfl,Row.setRow MC.o LQ Zd _,Row.setRow uh.o LQ Zd _,?_⟩
     have h:=Row.setRow yx.o LQ Zd (Qb ((M:Int) != 0) (T:Int) (q0:Int) (q1:Int) (q2:Int) Ox j Oy true (pf:Int) ea (Y2-Y1) ec pa (Y3-Y2) pc ((b.length:Int)-(Y3:Int)))
     rw [show Y3-Y2=PY.length by rw [HPY.o,TU,RU];omega] at h ⊢
     exact h
    ·exact Z0 Hh.o.YI (ZB _) _
open Go.Proofs.Rm (YM YE Room Z4)
theorem Th {w:World} {g o X j:Nat} {u v:Value} (h:w.cell? ⟨g,o,none⟩=some u) (Xh:g≠X):(w.setCell ⟨X,j,none⟩ v).cell? ⟨g,o,none⟩=some u:=by
 have:=Hk w ⟨X,j,none⟩ v g Xh
 rw [World.cell?_of_block (w:=w) this];exact h
theorem PD {w:World} {g o:Nat} {u:Value} (h:w.cell? ⟨g,o,none⟩=some u) (x:Obj):(w.alloc x).cell? ⟨g,o,none⟩=some u:=by
 rw [World.cell?_of_block (w:=w) ((Z' w x).block g (World.block_lt_of_cell? w ⟨g,o,none⟩ h))];exact h
theorem Rc (k x:Int) (w:World):Calls Tryz.prog 78 (Qz k x) w fun e w'=>(∃ cs:List Value,e = .returned (.agg cs.toArray)∧YC w' cs (Yt k x))∧Below w w w':=by
 have hb:Below w w ((w.alloc (.cells XQ 100)).setRow w.heap.size (Qm k 0 0 x false 0 0 0 0 none 0 0 false 0 none 0 0 none 0 0 0 0 false false 0 none 0 0 none 0 0 0)):=Z0 (Z' w _) (ZB _) _
 have y0:=setRow_heap (w.alloc (.cells XQ 100)) w.heap.size XQ (Qm k 0 0 x false 0 0 0 0 none 0 0 false 0 none 0 0 none 0 0 0 0 false false 0 none 0 0 none 0 0 0) 100 (0,0) (Z5 w _)
 have hT:∃ cs:List Value,Ending.returned (.agg (Qm k 0 0 x false 0 0 0 0 none 0 0 false 0 none 0 0 none 0 0 0 0 false false 0 none 0 0 none 0 0 0)) = .returned (.agg cs.toArray)∧YC ((w.alloc (.cells XQ 100)).setRow w.heap.size (Qm k 0 0 x false 0 0 0 0 none 0 0 false 0 none 0 0 none 0 0 0 0 false false 0 none 0 0 none 0 0 0)) cs (Yt k x):=⟨(Qm k 0 0 x false 0 0 0 0 none 0 0 false 0 none 0 0 none 0 0 0 0 false false 0 none 0 0 none 0 0 0),rfl,YC.refused _ k x⟩
 have HT:=Zh hT
 clear hT
 go_enter Tryz.func78,Tryz.ntmps78
 go_wp2_with (with_reducible refine ZY 100 (.tmp 4) (.tmp 8) rfl ?_;refine ZW rfl 100 (.tmp 4) (.tmp 8) rfl rfl w.heap.size (Qm k 0 0 x false 0 0 0 0 none 0 0 false 0 none 0 0 none 0 0 0 0 false false 0 none 0 0 none 0 0 0) rfl rfl 100 XQ (Z5 w _) Zg Zg Zg ?_)
 exact VR (results_cell_row Zr _ _ w.heap.size 100 (Qm k 0 0 x false 0 0 0 0 none 0 0 false 0 none 0 0 none 0 0 0 0 false false 0 none 0 0 none 0 0 0) (0,0) _ Zr y0 Tryz.underlying100 rfl Zg) rfl ⟨HT.o,hb⟩
theorem Ul {B:Nat} {S:Nat→Prop} {a w:World} (h:Fr B S a w) {g:Nat} (hg:B≤g) (c:Array Value):Fr B S a (w.setRow g c):=
 ⟨h.os,h.tape,h.output,by simpa [World.setRow] using h.size,fun k hk hs=>by rw [setRow_other w g k _ Zo];exact h.block k hk hs⟩
theorem x8 {cs:Array Value} (h:cs.all (·.oneCell')=true) (i:Nat) {v:Value} (hv:v.oneCell'=true):(cs.setIfInBounds i v).all (·.oneCell')=true:=by
 rw [Array.all_eq_true] at h ⊢
 intro j hj
 rw [Array.getElem_setIfInBounds]
 split
 ·exact hv
 ·exact h j (by simpa using hj)
theorem J7 (g:Nat) (c0:Value) (ep:Int) (cs:List Value) (w:World) (hg:w.heap[g]?=some (.cells #[c0,.int .i64 ep] 131 (0,0))) (h0:0≤ep) (h9:ep<1000000000) (SK:cs.length=22) (h1:cs.toArray.all (·.oneCell')=true) :
  Calls Tryz.prog 79 (Qf (some ⟨g,0,none⟩) cs.toArray) w fun e w'=>e = .returned (.agg ((cs.set 0 (.int .i64 2)).set 2 (.int .i64 (ep+1))).toArray)∧w'.heap[g]?=some (.cells #[c0,.int .i64 (ep+1)] 131 (0,0))∧Fr w (· = g) w w':=by
 have YJ:w.cell? ⟨g,1,none⟩=some (.int .i64 ep):=cell_of hg 1
 have KP:=ZI hg 1
 have Fq:=ZQ hg
 have hw:IntKind.i64.wrap (ep+1)=ep+1:=Ua _ Zo
 have dG:((cs.set 0 (.int .i64 2)).set 2 (.int .i64 (ep+1))).length=22:=by rw [List.length_set,List.length_set,SK]
 have SY:((cs.set 0 (.int .i64 2)).set 2 (.int .i64 (ep+1))).toArray.all (·.oneCell')=true:=by
  have h:=x8 (x8 h1 0 (v:= .int .i64 2) rfl) 2 (v:= .int .i64 (ep+1)) rfl
  rw [List.setIfInBounds_toArray,List.setIfInBounds_toArray] at h
  exact h
 have Br:(w.setCell ⟨g,1,none⟩ (.int .i64 (ep+1))).heap[g]?=some (.cells #[c0,.int .i64 (ep+1)] 131 (0,0)):=WA hg 1 _
 have c0':=cell_of Br 1
 clear hg h1
 go_enter Tryz.func79,Tryz.ntmps79
 go_upto_region 2 with fail
 have Xh:g≠w.heap.size:=by omega
 refine QN ?_
 refine wp_region_held_drew (S:=(fun w'=>w'.cell? ⟨g,1,none⟩=some (.int .i64 (ep+1)))) Zg ?_ (fun Yb=>?_)
 ·(try dsimp only)
  exact PD (PD c0' _) _
 refine YA 0 (h:=YA 1 (h:=YA 2 (h:=YA 3 (h:=YA 4 (h:=YA 5 (h:=?_))))))
 refine TR 6 (h:=fun K hK=>?_)
 go_simp
 refine hK.out _ _ ?_ (fun XX=>?_)
 ·(try dsimp only)
  exact PD (PD c0' _) _
 clear hK K
 try simp only [Z3.pt]
 refine YA 7 (h:=YA 8 (h:=?_))
 refine TR 9 (h:=fun K hK=>?_)
 go_simp
 refine hK.out _ _ ?_ (fun Wo=>?_)
 ·(try dsimp only)
  exact PD (PD c0' _) _
 clear hK K
 try simp only [Z3.pt]
 refine wpAnyH_done Zg ?_ _
 refine Py ?_
 have cB:Fr w (· = g) w ((((w.setCell ⟨g,1,none⟩ (.int .i64 (ep+1))).alloc (.cells ((cs.set 0 (.int .i64 2)).set 2 (.int .i64 (ep+1))).toArray 100)).alloc (.cells XQ 100)).drew):=(((Fr.refl w.heap.size (· = g) w).setAt 1 (.int .i64 (ep+1))).alloc (by show w.heap.size≤(w.heap.modify _ _).size;rw [Array.size_modify];exact ZB _) _ |>.alloc (by show w.heap.size≤((w.heap.modify _ _).push _).size;rw [Rg,Array.size_modify];exact JK _) _).drew
 have y_:(w.setCell ⟨g,1,none⟩ (.int .i64 (ep+1))).heap.size=w.heap.size:=by show (w.heap.modify _ _).size=_;rw [Array.size_modify]
 have y2:((((w.setCell ⟨g,1,none⟩ (.int .i64 (ep+1))).alloc (.cells ((cs.set 0 (.int .i64 2)).set 2 (.int .i64 (ep+1))).toArray 100)).alloc (.cells XQ 100)).drew).heap[w.heap.size]?=some (.cells ((cs.set 0 (.int .i64 2)).set 2 (.int .i64 (ep+1))).toArray 100 (0,0)):=by
  show (((w.setCell ⟨g,1,none⟩ (.int .i64 (ep+1))).alloc (.cells ((cs.set 0 (.int .i64 2)).set 2 (.int .i64 (ep+1))).toArray 100)).alloc _).heap[w.heap.size]?=_
  rw [(Z' _ _).block _ (by show _<((w.setCell _ _).heap.push _).size;rw [Rg,y_];exact Nat.lt_succ_self _),←y_]
  exact Z5 _ _
 have TJ:((((w.setCell ⟨g,1,none⟩ (.int .i64 (ep+1))).alloc (.cells ((cs.set 0 (.int .i64 2)).set 2 (.int .i64 (ep+1))).toArray 100)).alloc (.cells XQ 100)).drew).heap[w.heap.size+1]?=some (.cells XQ 100 (0,0)):=by
  have h:=Z5 ((w.setCell ⟨g,1,none⟩ (.int .i64 (ep+1))).alloc (.cells ((cs.set 0 (.int .i64 2)).set 2 (.int .i64 (ep+1))).toArray 100)) (.cells XQ 100)
  have e:((w.setCell ⟨g,1,none⟩ (.int .i64 (ep+1))).alloc (.cells ((cs.set 0 (.int .i64 2)).set 2 (.int .i64 (ep+1))).toArray 100)).heap.size=w.heap.size+1:=by show ((w.setCell _ _).heap.push _).size=_;rw [Rg,y_]
  rw [e] at h
  exact h
 have cF:((((w.setCell ⟨g,1,none⟩ (.int .i64 (ep+1))).alloc (.cells ((cs.set 0 (.int .i64 2)).set 2 (.int .i64 (ep+1))).toArray 100)).alloc (.cells XQ 100)).drew).heap[g]?=some (.cells #[c0,.int .i64 (ep+1)] 131 (0,0)):=by
  show (((w.setCell ⟨g,1,none⟩ (.int .i64 (ep+1))).alloc (.cells ((cs.set 0 (.int .i64 2)).set 2 (.int .i64 (ep+1))).toArray 100)).alloc _).heap[g]?=_
  rw [(Z' _ _).block _ (by show _<((w.setCell _ _).heap.push _).size;rw [Rg,y_];omega),(Z' _ _).block _ (by rw [y_];exact Fq)]
  exact Br
 clear Yb XX Wo c0' Br y_
 generalize (((w.setCell ⟨g,1,none⟩ (.int .i64 (ep+1))).alloc (.cells ((cs.set 0 (.int .i64 2)).set 2 (.int .i64 (ep+1))).toArray 100)).alloc (.cells XQ 100)).drew=w2 at *
 have U5:=Zh cB
 have HGB:=Zh cF
 clear cB cF
 generalize ct:(cs.set 0 (.int .i64 2)).set 2 (.int .i64 (ep+1))=nN at *
 have HCS2:=Zh ct
 clear ct
 have hi:(Tryz.prog.info? 100).map (·.size)=some nN.toArray.size:=by rw [List.size_toArray,dG];kernel_rfl
 have hold:(XQ:Array Value).size=nN.toArray.size:=by rw [show nN.toArray.size=22 by rw [List.size_toArray,dG]];rfl
 have jk:g≠w.heap.size+1:=by omega
 go_wp2_with (first|(with_reducible refine Yp 100 (.tmp 3) rfl ?_;refine Yd rfl 100 (.tmp 3) rfl w.heap.size rfl 100 nN.toArray (0,0) _ y2 Tryz.underlying100 rfl hi ?_)|(with_reducible refine ZY 100 (.tmp 4) (.tmp 20) rfl ?_;refine ZW rfl 100 (.tmp 4) (.tmp 20) rfl rfl (w.heap.size+1) nN.toArray rfl rfl 100 XQ TJ hi hold SY ?_))
 refine VR (v:= .agg nN.toArray) ?_ rfl ?_
 ·exact results_cell_row Zr _ _ (w.heap.size+1) 100 nN.toArray (0,0) _ Zr (setRow_heap _ _ _ _ _ _ TJ) Tryz.underlying100 rfl hi
 refine ⟨by rw [HCS2.o],?_,?_⟩
 ·rw [(We w2 (w.heap.size+1) nN.toArray).block g (ZQ HGB.o) jk];exact HGB.o
 ·exact Ul U5.o (JK _) nN.toArray
end Go.Proofs.By
