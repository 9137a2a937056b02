/- Several texts in one: The walk of rtp.Get: a packet. The walks of package door: refused, control. -/
import Derived.Deep.RegionHeld3
import Derived.Deep.DeepCutAuto
import Derived.IntWalk
import Derived.Laws.Rows
import Derived.Test.YtpdjhlcbcomdkaaGreatDoorV01
import Derived.Test.YtpdjhlcbcomdkaaGreatDoorV02
import Derived.Test.YtpdjhlcbcomdkaaGreatDoorV05
import Derived.Test.YtpdjhlcbcomdkaaGreatDoorV06
set_option linter.unusedVariables false
set_option linter.unusedSimpArgs false
set_option linter.unusedSimpArgs false
namespace Go.Proofs.By
open Go.RowKit Go.Proofs.Heap
theorem below_setRow {B:Nat} {a w:World} (h:Below B a w) {g:Nat} (hg:B≤g) (c:Array Value):Below B a (w.setRow g c):=
 ⟨h.os,h.tape,h.output,by simpa [World.setRow] using h.size,fun k hk=>by rw [setRow_other w g k _ (by omega)];exact h.block k hk⟩
theorem bel_alloc {B:Nat} {a w:World} (h:Below B a w) (hB:B≤a.heap.size) (o:Obj):Below B a (w.alloc o):=h.alloc (Nat.le_trans hB h.size) o
theorem load_at {P:Program} {ops:Array Oper} {rest:List Oper} {o:Oper} {a:Act} {w:World} {Q:Exit→Act→World→Prop} (ty:TypeId) (x:Operand) (_:o.op = .load ty x) (h:wpList P ops Q (o :: rest) a w):wpList P ops Q (o :: rest) a w:=h
theorem load_rowTo2 {P:Program} {ops:Array Oper} {rest:List Oper} {o:Oper} {a:Act} {w:World} {Q:Exit→Act→World→Prop} (hgd:o.guard=none) (ty:TypeId) (x:Operand) (ho:o.op = .load ty x)
  (g:Nat) (hx:a.eval x = .pointer (some ⟨g,0,none⟩)) (t:TypeId) (cs:Array Value) (fr:Nat × Nat) (d:TypeDesc) (hg:w.heap[g]?=some (.cells cs t fr))
  (hu:P.underlying ty=some d) (hd:(match d with | .struct _ | .array _ _=>true|_=>false)=true) (hi:(P.info? ty).map (·.size)=some cs.size)
  (h:wpList P ops Q rest (a.put o.dst (.agg cs)) w):wpList P ops Q (o :: rest) a w:=wpList_load_row hgd ty x ho g hx t cs fr d hg hu hd hi h
theorem u32s_snoc (l:List Int) (x:Int):u32s (l++[x])=u32s l++[.int .u32 x]:=by simp [u32s]
theorem mid_row {w:World} {a a':Option Addr} {c c' l h:Nat} {b:List UInt8} (hh:h≤b.length) (hl:l≤h) (hrow:∀ w xs,xs.length=b.length*1→RRow w (.slice a b.length c) b.length xs→RRow w (.slice a' (h-l) c') (h-l) ((xs.drop (l*1)).take ((h-l)*1))) (hv:BRow w (.slice a b.length c) b):BRow w (.slice a' (h-l) c') ((b.drop l).take (h-l)):=by
 have h1:=hrow w (bys b) (by rw [bys_length,Nat.mul_one]) hv
 rw [Nat.mul_one,Nat.mul_one,bys_drop,bys_take] at h1
 have h2:((b.drop l).take (h-l)).length=h-l:=by rw [List.length_take,List.length_drop];omega
 unfold BRow
 rw [h2]
 exact h1
set_option maxRecDepth 100000 in
set_option maxHeartbeats 4000000 in
theorem rtpGet_ok (v:Value) (b:List UInt8) (w:World) (hv:BRow w v b) (h0:(looks b).2=0) :
  Calls Tryz.prog 125 #[v] w fun e w'=>(∃ a,e = .returned (.tuple #[a,.int .i64 (rtpGet b).2])∧PktIn w' a (rtpGet b).1)∧Below w.heap.size w w':=by
 have HX:Hid (rtpGet b=(packet b (looks b).1,0)):=by show _=_;unfold rtpGet;rw [if_neg (by simp [h0])]
 have C:=fun w1 h=>look_any v b w1 (hv.below (h:Below w.heap.size w w1))
 have HC:=Lib.hid C
 have HV:Hid (∀ w',Below w.heap.size w w'→BRow w' v b):=fun w' h=>hv.below h
 obtain ⟨l12,l512,l1,l2,l3,l4⟩:=looks_ok h0
 obtain ⟨g,off,c,rfl,hcc,hmx,hbl⟩:=b_at hv (by omega)
 clear C hv hbl
 generalize rtpGet b=X at *
 generalize looks b=Y at *
 obtain ⟨⟨Y1,Y2,Y3⟩,Y4⟩:=Y
 obtain rfl:Y4=0:=h0
 dsimp only at l1 l2 l3 l4 HX HC
 have HN:Hid (∀ w',Below w.heap.size w w'→∀ p q:Int,Calls Tryz.prog 153 #[(.slice (some ⟨g,off,none⟩) b.length c),.int .i64 p,.int .i64 q] w' fun e w''=>e = .returned (.int .u64 (get b p q:Nat))∧w'=w''):=fun w' h p q=>number_any _ b p q w' (HV.out w' h)
 have HBY:Hid (∀ w',Below w.heap.size w w'→w'.cell? ⟨g,off,none⟩=some (.int .u8 (at8 b 0:Int))∧w'.cell? ⟨g,off+1,none⟩=some (.int .u8 (at8 b 1:Int))):=fun w' h=>by
  obtain ⟨_,_,_,e,_,_,hc⟩:=b_at (HV.out w' h) (by omega)
  cases e
  exact ⟨hc 0 (by omega),hc 1 (by omega)⟩
 have HPAC:Hid (packet b (Y1,Y2,Y3)=⟨decide (128≤at8 b 1),(at8 b 1 % 128:Nat),get b 2 2,get b 4 4,get b 8 4,(List.range (at8 b 0 % 16)).map fun (i:Nat)=>((get b (12+4*(i:Int)) 4:Nat):Int),decide (at8 b 0 / 16 % 2=1),if at8 b 0 / 16 % 2=1 then (get b ((Y1:Int)-4) 2:Int) else 0,if at8 b 0 / 16 % 2=1 then (b.drop Y1).take (Y2-Y1) else [],(b.drop Y2).take (Y3-Y2),(b.length:Int)-(Y3:Int)⟩):=rfl
 have hx0:=at8_256 b 0
 have hx1:=at8_256 b 1
 have a128:=and_128 (at8 b 1) hx1
 have a127:=and_127 (at8 b 1) hx1
 have a15:=and_15 (at8 b 0) hx0
 have a16:=and_16 (at8 b 0) hx0
 have b0:get b 2 2<65536:=get_lt b 2 2 2 (by decide)
 have b1:get b 4 4<4294967296:=get_lt b 4 4 4 (by decide)
 have b2:get b 8 4<4294967296:=get_lt b 8 4 4 (by decide)
 have HM:Hid (decide (128≤at8 b 1)=(((at8 b 1 / 128 % 2*128:Nat):Int) != 0)):=by show _=_;rw [Bool.eq_iff_iff,decide_eq_true_eq,bne_iff_ne];omega
 have hT:at8 b 1 % 128<128:=Nat.mod_lt _ (by decide)
 have hm:at8 b 0 % 16<16:=Nat.mod_lt _ (by decide)
 have hE:at8 b 0 / 16 % 2<2:=Nat.mod_lt _ (by decide)
 generalize at8 b 1 / 128 % 2*128=M at *
 generalize at8 b 1 % 128=T at *
 generalize at8 b 0 % 16=m at *
 generalize at8 b 0 / 16 % 2=E at *
 have hTw:IntKind.i64.wrap (T:Int)=(T:Int):=IntWalk.i64_in _ (by omega)
 have hmw:IntKind.i64.wrap (m:Int)=(m:Int):=IntWalk.i64_in _ (by omega)
 have hLw:IntKind.i64.wrap ((b.length:Int)-(Y3:Int))=(b.length:Int)-(Y3:Int):=IntWalk.i64_in _ (by omega)
 have hbI:(1:Int)<(b.length:Int):=by omega
 have hbN:1<b.length:=by omega
 have hbI0:(0:Int)<(b.length:Int):=by omega
 have hbN0:0<b.length:=by omega
 have hbZ:¬b.length=0:=by omega
 have hq0w:IntKind.u16.wrap ((get b 2 2:Nat):Int)=((get b 2 2:Nat):Int):=by rw [IntKind.wrap_u16];omega
 have hq1w:IntKind.u32.wrap ((get b 4 4:Nat):Int)=((get b 4 4:Nat):Int):=by rw [IntKind.wrap_u32];omega
 have hq2w:IntKind.u32.wrap ((get b 8 4:Nat):Int)=((get b 8 4:Nat):Int):=by rw [IntKind.wrap_u32];omega
 have HCC:=Lib.hid hcc
 clear b0 b1 b2 hx0 hx1 hcc hmx
 go_enter Tryz.func125,Tryz.ntmps125
 go_wp2_with fail
 refine (HC.out _ (below_alloc _ _)).mono ?_
 rintro e w2 ⟨rfl,hb2⟩
 clear HC
 have hres2:=hb2.block w.heap.size Yo11
 rw [heap_new] at hres2
 have hz2:w.heap.size+1≤w2.heap.size:=by have h:=hb2.size;have h:(w.heap.push _).size≤w2.heap.size:=h;rw [Array.size_push] at h;exact h
 have hb2':Below w.heap.size w w2:=(below_alloc w _).trans (hb2.mono Yo21)
 have HRES:Hid ((w2.alloc (.cells #[.int .i64 (Y1:Int),.int .i64 (Y2:Int),.int .i64 (Y3:Int)] 238)).heap[w.heap.size]?=some (.cells Yz3a 79)):=((below_alloc w2 _).block _ (by omega)).trans hres2
 have HSHP:Hid ((w2.alloc (.cells #[.int .i64 (Y1:Int),.int .i64 (Y2:Int),.int .i64 (Y3:Int)] 238)).heap[w2.heap.size]?=some (.cells #[.int .i64 (Y1:Int),.int .i64 (Y2:Int),.int .i64 (Y3:Int)] 238)):=heap_new _ _
 have HB3:Hid (Below w.heap.size w (w2.alloc (.cells #[.int .i64 (Y1:Int),.int .i64 (Y2:Int),.int .i64 (Y3:Int)] 238))):=bel_alloc hb2' (Nat.le_refl _) _
 have hs3:w2.heap.size<(w2.alloc (.cells #[.int .i64 (Y1:Int),.int .i64 (Y2:Int),.int .i64 (Y3:Int)] 238)).heap.size:=by show _<(w2.heap.push _).size;rw [Array.size_push];exact Nat.lt_succ_self _
 clear hres2 hb2 hb2'
 go_wp2_with fail
 generalize w2.alloc (.cells #[.int .i64 (Y1:Int),.int .i64 (Y2:Int),.int .i64 (Y3:Int)] 238)=w3 at *
 have hs2:w.heap.size<w2.heap.size:=by omega
 clear hz2
 generalize w2.heap.size=s at *
 clear w2
 have KEEP4:Hid (∀ w',Below w3.heap.size w3 w'→w'.cell? ⟨g,off+1,none⟩=some (.int .u8 (at8 b 1:Int))∧w'.cell? ⟨s,2,none⟩=some (.int .i64 (Y3:Int))∧Below w3.heap.size w3 w'):=fun w' h=>
  ⟨(HBY.out w' (HB3.out.trans (h.mono (by have:=HB3.out.size;omega)))).2,by rw [cell_of ((h.block s hs3).trans HSHP.out) 2];rfl,h⟩
 refine wp_region_noPanic ?_
 refine wp_region_held_drew (S:=(fun w'=>w'.cell? ⟨g,off+1,none⟩=some (.int .u8 (at8 b 1:Int))∧w'.cell? ⟨s,2,none⟩=some (.int .i64 (Y3:Int))∧Below w3.heap.size w3 w')) Yo3 ?_ (fun hHeld0=>?_)
 ·(try dsimp only)
  exact KEEP4.out _ (Below.refl _ _).drew
 refine YA 0 (h:=YA 1 (h:=YA 2 (h:=YA 3 (h:=YA 4 (h:=YA 5 (h:=YA 6 (h:=YA 7 (h:=YA 8 (h:=YA 9 (h:=YA 10 (h:=YA 11 (h:=YA 12 (h:=YA 13 (h:=YA 14 (h:=YA 15 (h:=?_))))))))))))))))
 refine YHR 16 (h:=fun K hK=>?_)
 go_simp
 refine hK.out _ _ ?_ (fun hHeld1=>?_)
 ·exact Yx130
 clear hK K
 try simp only [AnyT.pt]
 refine YHR 17 (h:=fun K hK=>?_)
 refine step_row (by rfl) 79 (.tmp 6) (.tmp 32) (by rfl) (by rfl) w3.heap.size #[.bool ((M:Int) != 0),.int .i64 (T:Int),.int .u16 0,.int .u32 0,.int .u32 0,.slice none 0 0,.bool false,.int .u16 0,.slice none 0 0,.slice none 0 0,.int .i64 ((b.length:Int)-(Y3:Int))] (by rfl) (by rfl) 79 _ (heap_new w3.drew _) Yo3 Yo3 Yo3 ?_
 refine hK.out _ _ ?_ (fun hHeld2=>?_)
 ·exact Yx130
 clear hK K
 try simp only [AnyT.pt]
 refine wpAnyH_done Yo3 ?_ _
 refine NoPanic.normal ?_
 have HPK:Hid (PK w ((w3.alloc (.cells Yz3a 79)).drew.setRow w3.heap.size #[.bool ((M:Int) != 0),.int .i64 (T:Int),.int .u16 0,.int .u32 0,.int .u32 0,.slice none 0 0,.bool false,.int .u16 0,.slice none 0 0,.slice none 0 0,.int .i64 ((b.length:Int)-(Y3:Int))]) s w3.heap.size [.int .i64 (Y1:Int),.int .i64 (Y2:Int),.int .i64 (Y3:Int)] [.bool ((M:Int) != 0),.int .i64 (T:Int),.int .u16 0,.int .u32 0,.int .u32 0,.slice none 0 0,.bool false,.int .u16 0,.slice none 0 0,.slice none 0 0,.int .i64 ((b.length:Int)-(Y3:Int))]):=
  (PK.mk (cs:=Yz3) (bel_alloc HB3.out.drew (Nat.le_refl _) _) (((below_alloc w3.drew _).block _ (show w.heap.size<w3.heap.size by omega)).trans HRES.out) (((below_alloc w3.drew _).block _ hs3).trans HSHP.out) (heap_new w3.drew _) ⟨hs2,hs3⟩).row [.bool ((M:Int) != 0),.int .i64 (T:Int),.int .u16 0,.int .u32 0,.int .u32 0,.slice none 0 0,.bool false,.int .u16 0,.slice none 0 0,.slice none 0 0,.int .i64 ((b.length:Int)-(Y3:Int))]
 clear KEEP4 HRES HSHP HB3 hHeld0 hHeld1 hHeld2
 generalize (w3.alloc (.cells Yz3a 79)).drew.setRow w3.heap.size #[.bool ((M:Int) != 0),.int .i64 (T:Int),.int .u16 0,.int .u32 0,.int .u32 0,.slice none 0 0,.bool false,.int .u16 0,.slice none 0 0,.slice none 0 0,.int .i64 ((b.length:Int)-(Y3:Int))]=w5 at *
 have hs4:s<w3.heap.size:=hs3
 clear hs3
 generalize w3.heap.size=p at *
 clear w3
 have HB5:=Lib.hid HPK.out.bel
 have u2:w5.cell? ⟨p,2,none⟩=some (.int .u16 0):=HPK.out.cell 2
 have u3:w5.cell? ⟨p,3,none⟩=some (.int .u32 0):=HPK.out.cell 3
 have u4:w5.cell? ⟨p,4,none⟩=some (.int .u32 0):=HPK.out.cell 4
 have f2:=HPK.out.frozen 2
 have f3:=HPK.out.frozen 3
 have f4:=HPK.out.frozen 4
 go_upto_region 6 with (go_at_call 153;refine (HN.out _ HB5.out _ _).mono ?_;rintro e w' ⟨rfl,rfl⟩)
 have HPK6:Hid (PK w (((w5.setCell ⟨p,2,none⟩ (.int .u16 ((get b 2 2:Nat):Int))).setCell ⟨p,3,none⟩ (.int .u32 ((get b 4 4:Nat):Int))).setCell ⟨p,4,none⟩ (.int .u32 ((get b 8 4:Nat):Int))) s p [.int .i64 (Y1:Int),.int .i64 (Y2:Int),.int .i64 (Y3:Int)] [.bool ((M:Int) != 0),.int .i64 (T:Int),.int .u16 ((get b 2 2:Nat):Int),.int .u32 ((get b 4 4:Nat):Int),.int .u32 ((get b 8 4:Nat):Int),.slice none 0 0,.bool false,.int .u16 0,.slice none 0 0,.slice none 0 0,.int .i64 ((b.length:Int)-(Y3:Int))]):=((HPK.out.set 2 (.int .u16 ((get b 2 2:Nat):Int))).set 3 (.int .u32 ((get b 4 4:Nat):Int))).set 4 (.int .u32 ((get b 8 4:Nat):Int))
 clear HPK HB5 u2 u3 u4 f2 f3 f4
 generalize ((w5.setCell ⟨p,2,none⟩ (.int .u16 ((get b 2 2:Nat):Int))).setCell ⟨p,3,none⟩ (.int .u32 ((get b 4 4:Nat):Int))).setCell ⟨p,4,none⟩ (.int .u32 ((get b 8 4:Nat):Int))=w6 at *
 clear w5 hq0w hq1w hq2w hTw hLw
 generalize hg0:get b 2 2=q0 at *
 generalize hg1:get b 4 4=q1 at *
 generalize hg2:get b 8 4=q2 at *
 have HG0:=Lib.hid hg0
 have HG1:=Lib.hid hg1
 have HG2:=Lib.hid hg2
 clear hg0 hg1 hg2
 obtain ⟨d0,d1⟩:=HBY.out _ HPK6.out.bel
 clear d1
 go_upto_region 7 with fail
 have HPL0:Hid (PL w w6 s p [.int .i64 (Y1:Int),.int .i64 (Y2:Int),.int .i64 (Y3:Int)] [.bool ((M:Int) != 0),.int .i64 (T:Int),.int .u16 (q0:Int),.int .u32 (q1:Int),.int .u32 (q2:Int),.slice none 0 0,.bool false,.int .u16 0,.slice none 0 0,.slice none 0 0,.int .i64 ((b.length:Int)-(Y3:Int))] (.slice none 0 0) 0 (u32s ((List.range 0).map fun (i:Nat)=>((get b (12+4*(i:Int)) 4:Nat):Int)))):=⟨HPK6.out,World.ownsRow_nil _ _ _ _⟩
 clear HPK6 d0
 go_loopw [50] (fun i w'=>∃ (j:Nat) (cv:Value),j≤m∧i = .int .i64 (j:Int)∧PL w w' s p [.int .i64 (Y1:Int),.int .i64 (Y2:Int),.int .i64 (Y3:Int)] [.bool ((M:Int) != 0),.int .i64 (T:Int),.int .u16 (q0:Int),.int .u32 (q1:Int),.int .u32 (q2:Int),cv,.bool false,.int .u16 0,.slice none 0 0,.slice none 0 0,.int .i64 ((b.length:Int)-(Y3:Int))] cv j (u32s ((List.range j).map fun (i:Nat)=>((get b (12+4*(i:Int)) 4:Nat):Int)))) (fun i _=>m-(intOf i).toNat)
 case atStart=>exact ⟨0,_,Nat.zero_le _,rfl,HPL0.out⟩
 case round=>
  clear HPL0
  obtain ⟨j,cv,hj,rfl,hpl⟩:=hrel
  obtain ⟨va0,vc0,rfl,-,-⟩:=Row.of_owns hpl.own
  have HPL:=Lib.hid hpl
  clear hpl
  by_cases hjm:j<m
  ·have HPLd:Hid (PL w wr.drew s p [.int .i64 (Y1:Int),.int .i64 (Y2:Int),.int .i64 (Y3:Int)] [.bool ((M:Int) != 0),.int .i64 (T:Int),.int .u16 (q0:Int),.int .u32 (q1:Int),.int .u32 (q2:Int),.slice va0 j vc0,.bool false,.int .u16 0,.slice none 0 0,.slice none 0 0,.int .i64 ((b.length:Int)-(Y3:Int))] (.slice va0 j vc0) j (u32s ((List.range j).map fun (i:Nat)=>((get b (12+4*(i:Int)) 4:Nat):Int)))):=⟨HPL.out.pk.drew,HPL.out.own⟩
   have c5:wr.cell? ⟨p,5,none⟩=some (.slice va0 j vc0):=HPL.out.pk.cell 5
   have hpl:p<wr.heap.size:=HPL.out.pk.klt
   have C9:=Lib.hid (HN.out wr.drew HPLd.out.pk.bel (12+4*(j:Int)) 4)
   have hxb:get b (12+4*(j:Int)) 4<4294967296:=get_lt b _ 4 4 (by decide)
   obtain ⟨xs,hxs⟩:∃ xs,xs=u32s ((List.range j).map fun (i:Nat)=>((get b (12+4*(i:Int)) 4:Nat):Int)):=⟨_,rfl⟩
   rw [←hxs] at HPL HPLd
   have HXS:=Lib.hid hxs
   clear hxs
   generalize hxx:get b (12+4*(j:Int)) 4=x at *
   have HXX:=Lib.hid hxx
   clear hxx
   have HPA:Hid (PL w (wr.alloc (.cells #[.int .u32 (x:Int)] 66)).drew s p [.int .i64 (Y1:Int),.int .i64 (Y2:Int),.int .i64 (Y3:Int)] [.bool ((M:Int) != 0),.int .i64 (T:Int),.int .u16 (q0:Int),.int .u32 (q1:Int),.int .u32 (q2:Int),.slice va0 j vc0,.bool false,.int .u16 0,.slice none 0 0,.slice none 0 0,.int .i64 ((b.length:Int)-(Y3:Int))] (.slice va0 j vc0) j xs):=⟨HPL.out.pk.below (below_alloc _ _).drew,owns_bel HPL.out.own (below_alloc _ _).drew⟩
   have hw1:IntKind.i64.wrap (4*(j:Int))=4*(j:Int):=IntWalk.i64_in _ (by omega)
   have hw2:IntKind.i64.wrap (12+4*(j:Int))=12+4*(j:Int):=IntWalk.i64_in _ (by omega)
   have hxw:IntKind.u32.wrap (x:Int)=(x:Int):=by rw [IntKind.wrap_u32];omega
   go_upto_region 9 with fail
   refine wp_region_noPanic ?_
   refine wp_region_held_drew (S:=(fun w'=>Below w.heap.size w w')) Yo3 ?_ (fun hHeld0=>?_)
   ·(try dsimp only)
    exact HPLd.out.pk.bel
   refine YA 0 (h:=YA 2 (h:=YA 3 (h:=YA 4 (h:=YA 5 (h:=?_)))))
   refine wpAnyH_ready (rs:=[1,6]) Yo3 (by simp) ?_
   refine AllReadyH.cons (i:=1) rfl (fun K hK=>?_) ?_
   ·skip
    go_simp
    refine hK.out _ _ ?_ (fun hHeld1=>?_)
    ·(try dsimp only)
     first|exact HPLd.out.pk.bel|exact HP6.out.bel|exact HP5.out.bel|exact HPA.out.pk.bel
    clear hK K
    try simp only [AnyT.pt]
    refine YHR 6 (h:=fun K hK=>?_)
    go_simp
    refine C9.out.mono ?_
    rintro e w' ⟨rfl,rfl⟩
    go_wp2_with fail
    refine hK.out _ _ ?_ (fun hHeld2=>?_)
    ·(try dsimp only)
     first|exact HPLd.out.pk.bel|exact HP6.out.bel|exact HP5.out.bel|exact HPA.out.pk.bel
    clear hK K
    try simp only [AnyT.pt]
    refine YA 7 (h:=?_)
    refine YHR 8 (h:=fun K hK=>?_)
    go_simp
    refine hK.out _ _ ?_ (fun hHeld3=>?_)
    ·(try dsimp only)
     first|exact HPLd.out.pk.bel|exact HP6.out.bel|exact HP5.out.bel|exact HPA.out.pk.bel
    clear hK K
    try simp only [AnyT.pt]
    refine YHR 9 (h:=fun K hK=>?_)
    refine step_app (by rfl) (.tmp 54) (.tmp 61) 29 (by rfl) (p+1) elemU32 (.slice va0 j vc0) j xs (by rfl) HPA.out.own (.slice (some ⟨wr.heap.size,0,none⟩) 1 1) 1 [.int .u32 (x:Int)] (by rfl) (rowNew wr 66 1 [.int .u32 (x:Int)] (by decide)) rfl (by intro u hu;simp at hu;subst hu;rfl) (by omega) (by omega) (by show _≤(wr.heap.push _).size;rw [Array.size_push];omega) ?_
    intro v' w5 HO HG
    obtain ⟨va,vc,hva,-,-⟩:=Row.of_owns HO.out
    subst hva
    have HP5:=Lib.hid (HPA.out.grown HG.out)
    have c55:w5.cell? ⟨p,5,none⟩=some (.slice va0 j vc0):=HP5.out.cell 5
    have f55:=HP5.out.frozen 5
    refine hK.out _ _ ?_ (fun hHeld4=>?_)
    ·(try dsimp only)
     first|exact HPLd.out.pk.bel|exact HP6.out.bel|exact HP5.out.bel|exact HPA.out.pk.bel
    clear hK K
    try simp only [AnyT.pt]
    refine YA 10 (h:=?_)
    refine YHR 11 (h:=fun K hK=>?_)
    go_simp
    have HP6:=Lib.hid (HP5.out.set 5 (.slice va (j+1) vc))
    have HO6:=Lib.hid (owns_set HO.out (b:=p) (o:=5) (Nat.lt_succ_self _) (.slice va (j+1) vc))
    refine hK.out _ _ ?_ (fun hHeld5=>?_)
    ·(try dsimp only)
     first|exact HPLd.out.pk.bel|exact HP6.out.bel|exact HP5.out.bel|exact HPA.out.pk.bel
    exact Yx58
   refine AllReadyH.cons (i:=6) rfl (fun K hK=>?_) AllReadyH.nil
   go_simp
   refine C9.out.mono ?_
   rintro e w' ⟨rfl,rfl⟩
   go_wp2_with fail
   refine hK.out _ _ ?_ (fun hHeld6=>?_)
   ·(try dsimp only)
    first|exact HPLd.out.pk.bel|exact HP6.out.bel|exact HP5.out.bel|exact HPA.out.pk.bel
   clear hK K
   try simp only [AnyT.pt]
   refine YA 7 (h:=?_)
   refine wpAnyH_ready (rs:=[1,8]) Yo3 (by simp) ?_
   refine AllReadyH.cons (i:=1) rfl (fun K hK=>?_) ?_
   ·skip
    go_simp
    refine hK.out _ _ ?_ (fun hHeld7=>?_)
    ·(try dsimp only)
     first|exact HPLd.out.pk.bel|exact HP6.out.bel|exact HP5.out.bel|exact HPA.out.pk.bel
    clear hK K
    try simp only [AnyT.pt]
    refine YHR 8 (h:=fun K hK=>?_)
    go_simp
    refine hK.out _ _ ?_ (fun hHeld8=>?_)
    ·(try dsimp only)
     first|exact HPLd.out.pk.bel|exact HP6.out.bel|exact HP5.out.bel|exact HPA.out.pk.bel
    clear hK K
    try simp only [AnyT.pt]
    refine YHR 9 (h:=fun K hK=>?_)
    refine step_app (by rfl) (.tmp 54) (.tmp 61) 29 (by rfl) (p+1) elemU32 (.slice va0 j vc0) j xs (by rfl) HPA.out.own (.slice (some ⟨wr.heap.size,0,none⟩) 1 1) 1 [.int .u32 (x:Int)] (by rfl) (rowNew wr 66 1 [.int .u32 (x:Int)] (by decide)) rfl (by intro u hu;simp at hu;subst hu;rfl) (by omega) (by omega) (by show _≤(wr.heap.push _).size;rw [Array.size_push];omega) ?_
    intro v' w5 HO HG
    obtain ⟨va,vc,hva,-,-⟩:=Row.of_owns HO.out
    subst hva
    have HP5:=Lib.hid (HPA.out.grown HG.out)
    have c55:w5.cell? ⟨p,5,none⟩=some (.slice va0 j vc0):=HP5.out.cell 5
    have f55:=HP5.out.frozen 5
    refine hK.out _ _ ?_ (fun hHeld9=>?_)
    ·(try dsimp only)
     first|exact HPLd.out.pk.bel|exact HP6.out.bel|exact HP5.out.bel|exact HPA.out.pk.bel
    clear hK K
    try simp only [AnyT.pt]
    refine YA 10 (h:=?_)
    refine YHR 11 (h:=fun K hK=>?_)
    go_simp
    have HP6:=Lib.hid (HP5.out.set 5 (.slice va (j+1) vc))
    have HO6:=Lib.hid (owns_set HO.out (b:=p) (o:=5) (Nat.lt_succ_self _) (.slice va (j+1) vc))
    refine hK.out _ _ ?_ (fun hHeld10=>?_)
    ·(try dsimp only)
     first|exact HPLd.out.pk.bel|exact HP6.out.bel|exact HP5.out.bel|exact HPA.out.pk.bel
    exact Yx58
   refine AllReadyH.cons (i:=8) rfl (fun K hK=>?_) AllReadyH.nil
   go_simp
   refine hK.out _ _ ?_ (fun hHeld11=>?_)
   ·(try dsimp only)
    first|exact HPLd.out.pk.bel|exact HP6.out.bel|exact HP5.out.bel|exact HPA.out.pk.bel
   clear hK K
   try simp only [AnyT.pt]
   refine YHR 1 (h:=fun K hK=>?_)
   go_simp
   refine hK.out _ _ ?_ (fun hHeld12=>?_)
   ·(try dsimp only)
    first|exact HPLd.out.pk.bel|exact HP6.out.bel|exact HP5.out.bel|exact HPA.out.pk.bel
   clear hK K
   try simp only [AnyT.pt]
   refine YHR 9 (h:=fun K hK=>?_)
   refine step_app (by rfl) (.tmp 54) (.tmp 61) 29 (by rfl) (p+1) elemU32 (.slice va0 j vc0) j xs (by rfl) HPA.out.own (.slice (some ⟨wr.heap.size,0,none⟩) 1 1) 1 [.int .u32 (x:Int)] (by rfl) (rowNew wr 66 1 [.int .u32 (x:Int)] (by decide)) rfl (by intro u hu;simp at hu;subst hu;rfl) (by omega) (by omega) (by show _≤(wr.heap.push _).size;rw [Array.size_push];omega) ?_
   intro v' w5 HO HG
   obtain ⟨va,vc,hva,-,-⟩:=Row.of_owns HO.out
   subst hva
   have HP5:=Lib.hid (HPA.out.grown HG.out)
   have c55:w5.cell? ⟨p,5,none⟩=some (.slice va0 j vc0):=HP5.out.cell 5
   have f55:=HP5.out.frozen 5
   refine hK.out _ _ ?_ (fun hHeld13=>?_)
   ·(try dsimp only)
    first|exact HPLd.out.pk.bel|exact HP6.out.bel|exact HP5.out.bel|exact HPA.out.pk.bel
   clear hK K
   try simp only [AnyT.pt]
   refine YA 10 (h:=?_)
   refine YHR 11 (h:=fun K hK=>?_)
   go_simp
   have HP6:=Lib.hid (HP5.out.set 5 (.slice va (j+1) vc))
   have HO6:=Lib.hid (owns_set HO.out (b:=p) (o:=5) (Nat.lt_succ_self _) (.slice va (j+1) vc))
   refine hK.out _ _ ?_ (fun hHeld14=>?_)
   ·(try dsimp only)
    first|exact HPLd.out.pk.bel|exact HP6.out.bel|exact HP5.out.bel|exact HPA.out.pk.bel
   exact Yx58
  ·obtain rfl:j=m:=by omega
   obtain ⟨CL,hCL⟩:∃ CL,CL=(List.range j).map fun (i:Nat)=>((get b (12+4*(i:Int)) 4:Nat):Int):=⟨_,rfl⟩
   have hcl:CL.length=j:=by rw [hCL,List.length_map,List.length_range]
   rw [←hCL] at HPL HPAC
   have HPR:Hid (PR w wr s p [.int .i64 (Y1:Int),.int .i64 (Y2:Int),.int .i64 (Y3:Int)] [.bool ((M:Int) != 0),.int .i64 (T:Int),.int .u16 (q0:Int),.int .u32 (q1:Int),.int .u32 (q2:Int),.slice va0 j vc0,.bool false,.int .u16 0,.slice none 0 0,.slice none 0 0,.int .i64 ((b.length:Int)-(Y3:Int))] (.slice va0 j vc0) (.slice none 0 0) (.slice none 0 0) CL [] []):=⟨HPL.out.pk,by rw [hcl];exact Row.of_owns HPL.out.own,Row.nil _ _,Row.nil _ _⟩
   have HCLE:=Lib.hid hcl
   clear HPL hCL hcl hjm hj
   obtain ⟨d0,d1⟩:=HBY.out _ HPR.out.pk.bel
   clear d1
   have hps:p<wr.heap.size:=HPR.out.pk.klt
   obtain hE0|hE1:E=0∨E=1:=by omega
   ·subst hE0
    rw [Nat.zero_mul] at a16
    go_upto_region 13 with fail
    have sc1:wr.cell? ⟨s,1,none⟩=some (.int .i64 (Y2:Int)):=HPR.out.pk.scell 1
    have sc2:wr.cell? ⟨s,2,none⟩=some (.int .i64 (Y3:Int)):=HPR.out.pk.scell 2
    obtain ⟨a',hsl,hrow⟩:=slice_mid (P:=Tryz.prog) elemU8 (some ⟨g,off,none⟩) b.length c Y2 Y3 l3 l4 HCC.out
    have hpy:((b.drop Y2).take (Y3-Y2)).length=Y3-Y2:=by rw [List.length_take,List.length_drop];omega
    have HCL:=Lib.hid (BClone_any _ ((b.drop Y2).take (Y3-Y2)) wr (mid_row l4 l3 hrow (HV.out _ HPR.out.pk.bel)) (by rw [hpy];omega))
    rw [hpy] at HCL
    clear hrow hpy
    obtain ⟨PY,hPY⟩:∃ PY,PY=(b.drop Y2).take (Y3-Y2):=⟨_,rfl⟩
    rw [←hPY] at HCL HPAC
    have HPY:=Lib.hid hPY
    clear hPY
    go_upto_region 14 with (go_at_call 154;refine HCL.out.mono ?_;rintro e w10 ⟨⟨pv,rfl,hpr⟩,hb10⟩;obtain ⟨pa,pc,hpv,-,-⟩:=id hpr;subst hpv;have HPR10:=Lib.hid (HPR.out.below hb10);have HPYR:=Lib.hid hpr;clear hpr hb10;have c9:w10.cell? ⟨p,9,none⟩=some (.slice none 0 0):=HPR10.out.pk.cell 9;have f9:=HPR10.out.pk.frozen 9)
    have HPK:Hid (PK w (w10.setCell ⟨p,9,none⟩ (.slice pa (Y3-Y2) pc)) s p [.int .i64 (Y1:Int),.int .i64 (Y2:Int),.int .i64 (Y3:Int)] [.bool ((M:Int) != 0),.int .i64 (T:Int),.int .u16 (q0:Int),.int .u32 (q1:Int),.int .u32 (q2:Int),.slice va0 j vc0,.bool false,.int .u16 0,.slice none 0 0,.slice pa (Y3-Y2) pc,.int .i64 ((b.length:Int)-(Y3:Int))]):=HPR10.out.pk.set 9 (.slice pa (Y3-Y2) pc)
    have HR1:=Lib.hid (HPR10.out.csr.setCell (p:=⟨p,9,none⟩) HPR10.out.pk.blk (by decide) (.slice pa (Y3-Y2) pc))
    have HR2:=Lib.hid (HPR10.out.exr.setCell (p:=⟨p,9,none⟩) HPR10.out.pk.blk (by decide) (.slice pa (Y3-Y2) pc))
    have HR3:=Lib.hid (HPYR.out.setCell (p:=⟨p,9,none⟩) HPR10.out.pk.blk (by decide) (.slice pa (Y3-Y2) pc))
    clear HPR HPR10 HPYR HCL c9 f9 sc1 sc2 hsl
    generalize w10.setCell ⟨p,9,none⟩ (.slice pa (Y3-Y2) pc)=w11 at *
    clear w10
    have hblk:w11.heap[p]?=some (.cells #[.bool ((M:Int) != 0),.int .i64 (T:Int),.int .u16 (q0:Int),.int .u32 (q1:Int),.int .u32 (q2:Int),.slice va0 j vc0,.bool false,.int .u16 0,.slice none 0 0,.slice pa (Y3-Y2) pc,.int .i64 ((b.length:Int)-(Y3:Int))] 79 (0,0)):=HPK.out.blk
    have hres:w11.heap[w.heap.size]?=some (.cells Yz3a 79 (0,0)):=HPK.out.res
    go_wp2_with (first|(with_reducible refine load_at 79 (.tmp 6) rfl ?_;refine load_rowTo2 rfl 79 (.tmp 6) rfl p rfl 79 #[.bool ((M:Int) != 0),.int .i64 (T:Int),.int .u16 (q0:Int),.int .u32 (q1:Int),.int .u32 (q2:Int),.slice va0 j vc0,.bool false,.int .u16 0,.slice none 0 0,.slice pa (Y3-Y2) pc,.int .i64 ((b.length:Int)-(Y3:Int))] (0,0) _ hblk Tryz.underlying79 rfl Yo3 ?_)|(with_reducible refine store_at 79 (.tmp 2) (.tmp 94) rfl ?_;refine store_rowTo2 rfl 79 (.tmp 2) (.tmp 94) rfl rfl w.heap.size #[.bool ((M:Int) != 0),.int .i64 (T:Int),.int .u16 (q0:Int),.int .u32 (q1:Int),.int .u32 (q2:Int),.slice va0 j vc0,.bool false,.int .u16 0,.slice none 0 0,.slice pa (Y3-Y2) pc,.int .i64 ((b.length:Int)-(Y3:Int))] rfl rfl 79 _ hres Yo3 Yo3 Yo3 ?_))
    have y0:=setRow_heap w11 w.heap.size _ #[.bool ((M:Int) != 0),.int .i64 (T:Int),.int .u16 (q0:Int),.int .u32 (q1:Int),.int .u32 (q2:Int),.slice va0 j vc0,.bool false,.int .u16 0,.slice none 0 0,.slice pa (Y3-Y2) pc,.int .i64 ((b.length:Int)-(Y3:Int))] 79 (0,0) hres
    have z0:=cell_of y0 0
    have z1:=cell_of y0 1
    have z2:=cell_of y0 2
    have z3:=cell_of y0 3
    have z4:=cell_of y0 4
    have z5:=cell_of y0 5
    have z6:=cell_of y0 6
    have z7:=cell_of y0 7
    have z8:=cell_of y0 8
    have z9:=cell_of y0 9
    have z10:=cell_of y0 10
    simp only [List.getElem?_toArray,List.getElem?_cons_zero,List.getElem?_cons_succ] at z0 z1 z2 z3 z4 z5 z6 z7 z8 z9 z10
    refine bodyPost_ret (v:= .tuple #[.agg #[.bool ((M:Int) != 0),.int .i64 (T:Int),.int .u16 (q0:Int),.int .u32 (q1:Int),.int .u32 (q2:Int),.slice va0 j vc0,.bool false,.int .u16 0,.slice none 0 0,.slice pa (Y3-Y2) pc,.int .i64 ((b.length:Int)-(Y3:Int))],.int .i64 0]) (by simp [results,Tryz.results125,go_sem,z0,z1,z2,z3,z4,z5,z6,z7,z8,z9,z10]) rfl ⟨⟨_,by rw [HX.out],?_⟩,?_⟩
    ·rw [HX.out]
     show PktIn _ _ (packet b (Y1,Y2,Y3))
     rw [HPAC.out,HM.out]
     refine ⟨.slice va0 j vc0,.slice none 0 0,.slice pa (Y3-Y2) pc,rfl,Row.setRow HR1.out hres (by decide) _,Row.setRow HR2.out hres (by decide) _,?_⟩
     have h:=Row.setRow HR3.out hres (by decide) #[.bool ((M:Int) != 0),.int .i64 (T:Int),.int .u16 (q0:Int),.int .u32 (q1:Int),.int .u32 (q2:Int),.slice va0 j vc0,.bool false,.int .u16 0,.slice none 0 0,.slice pa (Y3-Y2) pc,.int .i64 ((b.length:Int)-(Y3:Int))]
     rw [show Y3-Y2=PY.length by rw [HPY.out,List.length_take,List.length_drop];omega] at h ⊢
     exact h
    ·exact below_setRow HPK.out.bel (Nat.le_refl _) _
   ·subst hE1
    rw [Nat.one_mul] at a16
    go_upto_region 12 with fail
    have sc0:wr.cell? ⟨s,0,none⟩=some (.int .i64 (Y1:Int)):=HPR.out.pk.scell 0
    have KEEP12:Hid (∀ w',Below wr.heap.size wr w'→w'.cell? ⟨s,0,none⟩=some (.int .i64 (Y1:Int))∧w'.cell? ⟨s,1,none⟩=some (.int .i64 (Y2:Int))∧Below w.heap.size w w'):=fun w' h=>⟨(HPR.out.below h).pk.scell 0,(HPR.out.below h).pk.scell 1,(HPR.out.below h).pk.bel⟩
    obtain ⟨a',hsl,hrow⟩:=slice_mid (P:=Tryz.prog) elemU8 (some ⟨g,off,none⟩) b.length c Y1 Y2 l2 (by omega) HCC.out
    have hpy:((b.drop Y1).take (Y2-Y1)).length=Y2-Y1:=by rw [List.length_take,List.length_drop];omega
    have HCL:=Lib.hid (BClone_any _ ((b.drop Y1).take (Y2-Y1)) wr.drew (mid_row (by omega) l2 hrow (HV.out _ HPR.out.pk.bel.drew)) (by rw [hpy];omega))
    rw [hpy] at HCL
    clear hrow hpy d0 sc0
    obtain ⟨ES,hES⟩:∃ ES,ES=(b.drop Y1).take (Y2-Y1):=⟨_,rfl⟩
    have hEL:ES.length=Y2-Y1:=by rw [hES,List.length_take,List.length_drop];omega
    rw [←hES] at HCL HPAC
    have HEL:=Lib.hid hEL
    clear hES hEL
    have hw4:IntKind.i64.wrap ((Y1:Int)-4)=(Y1:Int)-4:=IntWalk.i64_in _ (by omega)
    have hpb:get b ((Y1:Int)-4) 2<65536:=get_lt b _ 2 2 (by decide)
    have CNP:=Lib.hid (HN.out wr.drew HPR.out.pk.bel.drew ((Y1:Int)-4) 2)
    generalize get b ((Y1:Int)-4) 2=pf at *
    have hpw:IntKind.u16.wrap (pf:Int)=(pf:Int):=by rw [IntKind.wrap_u16];omega
    clear hpb
    refine wp_region_noPanic ?_
    refine wp_region_held_drew (S:=(fun w'=>w'.cell? ⟨s,0,none⟩=some (.int .i64 (Y1:Int))∧w'.cell? ⟨s,1,none⟩=some (.int .i64 (Y2:Int))∧Below w.heap.size w w')) Yo3 ?_ (fun hHeld0=>?_)
    ·(try dsimp only)
     exact KEEP12.out _ (Below.refl _ _).drew
    refine YA 0 (h:=YA 1 (h:=YA 2 (h:=YA 3 (h:=YA 6 (h:=YA 7 (h:=YA 8 (h:=YA 9 (h:=YA 10 (h:=YA 11 (h:=YA 13 (h:=?_)))))))))))
    refine YHR 4 (h:=fun K hK=>?_)
    go_simp
    refine CNP.out.mono ?_
    rintro e w' ⟨rfl,rfl⟩
    go_wp2_with fail
    refine hK.out _ _ ?_ (fun hHeld1=>?_)
    ·exact Yx41
    clear hK K
    try simp only [AnyT.pt]
    refine YA 5 (h:=?_)
    refine YHR 12 (h:=fun K hK=>?_)
    go_simp
    refine HCL.out.mono ?_
    rintro e w8 ⟨⟨ev,rfl,her⟩,hb8⟩
    obtain ⟨ea,ec,hev,-,-⟩:=id her
    subst hev
    go_wp2_with fail
    have HPR8:=Lib.hid ((HPR.out.drew).below hb8)
    have HER:=Lib.hid her
    clear her
    have v6:w8.cell? ⟨p,6,none⟩=some (.bool false):=HPR8.out.pk.cell 6
    have v7:w8.cell? ⟨p,7,none⟩=some (.int .u16 0):=HPR8.out.pk.cell 7
    have v8:w8.cell? ⟨p,8,none⟩=some (.slice none 0 0):=HPR8.out.pk.cell 8
    have g6:=HPR8.out.pk.frozen 6
    have g7:=HPR8.out.pk.frozen 7
    have g8:=HPR8.out.pk.frozen 8
    have hp8:p<w8.heap.size:=HPR8.out.pk.klt
    have k0:=HPR8.out.pk.scell 0
    have k1:=HPR8.out.pk.scell 1
    refine hK.out _ _ ?_ (fun hHeld2=>?_)
    ·exact Yx41
    clear hK K
    try simp only [AnyT.pt]
    refine YHR 14 (h:=fun K hK=>?_)
    go_simp
    have HQ1:=Lib.hid (HPR8.out.set 6 (.bool true))
    refine hK.out _ _ ?_ (fun hHeld3=>?_)
    ·exact Yx41
    clear hK K
    try simp only [AnyT.pt]
    refine YA 15 (h:=?_)
    refine YHR 16 (h:=fun K hK=>?_)
    go_simp
    have HQ2:=Lib.hid (HQ1.out.set 7 (.int .u16 (pf:Int)))
    refine hK.out _ _ ?_ (fun hHeld4=>?_)
    ·exact Yx41
    clear hK K
    try simp only [AnyT.pt]
    refine YA 17 (h:=?_)
    refine YHR 18 (h:=fun K hK=>?_)
    go_simp
    have HQ3:=Lib.hid (HQ2.out.set 8 (.slice ea (Y2-Y1) ec))
    refine hK.out _ _ ?_ (fun hHeld5=>?_)
    ·exact Yx41
    clear hK K
    try simp only [AnyT.pt]
    refine wpAnyH_done Yo3 ?_ _
    refine NoPanic.normal ?_
    have HER3:=Lib.hid (((HER.out.setCell (p:=⟨p,6,none⟩) HPR8.out.pk.blk (by decide) (.bool true)).setCell (p:=⟨p,7,none⟩) HQ1.out.pk.blk (by decide) (.int .u16 (pf:Int))).setCell (p:=⟨p,8,none⟩) HQ2.out.pk.blk (by decide) (.slice ea (Y2-Y1) ec))
    have HPRE:Hid (PR w (((w8.setCell ⟨p,6,none⟩ (.bool true)).setCell ⟨p,7,none⟩ (.int .u16 (pf:Int))).setCell ⟨p,8,none⟩ (.slice ea (Y2-Y1) ec)) s p [.int .i64 (Y1:Int),.int .i64 (Y2:Int),.int .i64 (Y3:Int)] [.bool ((M:Int) != 0),.int .i64 (T:Int),.int .u16 (q0:Int),.int .u32 (q1:Int),.int .u32 (q2:Int),.slice va0 j vc0,.bool true,.int .u16 (pf:Int),.slice ea (Y2-Y1) ec,.slice none 0 0,.int .i64 ((b.length:Int)-(Y3:Int))] (.slice va0 j vc0) (.slice ea (Y2-Y1) ec) (.slice none 0 0) CL ES []):=⟨HQ3.out.pk,HQ3.out.csr,by rw [HEL.out];exact HER3.out,Row.nil _ _⟩
    clear HPR8 HQ1 HQ2 HQ3 HER HER3 v6 v7 v8 g6 g7 g8 hp8 k0 k1 KEEP12 HPR CNP HCL hsl hw4 hpw hps hHeld0 hHeld1 hHeld2 hHeld3 hHeld4 hHeld5 hb8
    generalize ((w8.setCell ⟨p,6,none⟩ (.bool true)).setCell ⟨p,7,none⟩ (.int .u16 (pf:Int))).setCell ⟨p,8,none⟩ (.slice ea (Y2-Y1) ec)=w9 at *
    clear w8
    have HPR:=HPRE
    clear HPRE
    obtain ⟨d0,-⟩:=HBY.out _ HPR.out.pk.bel
    have hps:p<w9.heap.size:=HPR.out.pk.klt
    go_upto_region 13 with fail
    have sc1:w9.cell? ⟨s,1,none⟩=some (.int .i64 (Y2:Int)):=HPR.out.pk.scell 1
    have sc2:w9.cell? ⟨s,2,none⟩=some (.int .i64 (Y3:Int)):=HPR.out.pk.scell 2
    obtain ⟨a',hsl,hrow⟩:=slice_mid (P:=Tryz.prog) elemU8 (some ⟨g,off,none⟩) b.length c Y2 Y3 l3 l4 HCC.out
    have hpy:((b.drop Y2).take (Y3-Y2)).length=Y3-Y2:=by rw [List.length_take,List.length_drop];omega
    have HCL:=Lib.hid (BClone_any _ ((b.drop Y2).take (Y3-Y2)) w9 (mid_row l4 l3 hrow (HV.out _ HPR.out.pk.bel)) (by rw [hpy];omega))
    rw [hpy] at HCL
    clear hrow hpy
    obtain ⟨PY,hPY⟩:∃ PY,PY=(b.drop Y2).take (Y3-Y2):=⟨_,rfl⟩
    rw [←hPY] at HCL HPAC
    have HPY:=Lib.hid hPY
    clear hPY
    go_upto_region 14 with (go_at_call 154;refine HCL.out.mono ?_;rintro e w10 ⟨⟨pv,rfl,hpr⟩,hb10⟩;obtain ⟨pa,pc,hpv,-,-⟩:=id hpr;subst hpv;have HPR10:=Lib.hid (HPR.out.below hb10);have HPYR:=Lib.hid hpr;clear hpr hb10;have c9:w10.cell? ⟨p,9,none⟩=some (.slice none 0 0):=HPR10.out.pk.cell 9;have f9:=HPR10.out.pk.frozen 9)
    have HPK:Hid (PK w (w10.setCell ⟨p,9,none⟩ (.slice pa (Y3-Y2) pc)) s p [.int .i64 (Y1:Int),.int .i64 (Y2:Int),.int .i64 (Y3:Int)] [.bool ((M:Int) != 0),.int .i64 (T:Int),.int .u16 (q0:Int),.int .u32 (q1:Int),.int .u32 (q2:Int),.slice va0 j vc0,.bool true,.int .u16 (pf:Int),.slice ea (Y2-Y1) ec,.slice pa (Y3-Y2) pc,.int .i64 ((b.length:Int)-(Y3:Int))]):=HPR10.out.pk.set 9 (.slice pa (Y3-Y2) pc)
    have HR1:=Lib.hid (HPR10.out.csr.setCell (p:=⟨p,9,none⟩) HPR10.out.pk.blk (by decide) (.slice pa (Y3-Y2) pc))
    have HR2:=Lib.hid (HPR10.out.exr.setCell (p:=⟨p,9,none⟩) HPR10.out.pk.blk (by decide) (.slice pa (Y3-Y2) pc))
    have HR3:=Lib.hid (HPYR.out.setCell (p:=⟨p,9,none⟩) HPR10.out.pk.blk (by decide) (.slice pa (Y3-Y2) pc))
    clear HPR HPR10 HPYR HCL c9 f9 sc1 sc2 hsl
    generalize w10.setCell ⟨p,9,none⟩ (.slice pa (Y3-Y2) pc)=w11 at *
    clear w10
    have hblk:w11.heap[p]?=some (.cells #[.bool ((M:Int) != 0),.int .i64 (T:Int),.int .u16 (q0:Int),.int .u32 (q1:Int),.int .u32 (q2:Int),.slice va0 j vc0,.bool true,.int .u16 (pf:Int),.slice ea (Y2-Y1) ec,.slice pa (Y3-Y2) pc,.int .i64 ((b.length:Int)-(Y3:Int))] 79 (0,0)):=HPK.out.blk
    have hres:w11.heap[w.heap.size]?=some (.cells Yz3a 79 (0,0)):=HPK.out.res
    go_wp2_with (first|(with_reducible refine load_at 79 (.tmp 6) rfl ?_;refine load_rowTo2 rfl 79 (.tmp 6) rfl p rfl 79 #[.bool ((M:Int) != 0),.int .i64 (T:Int),.int .u16 (q0:Int),.int .u32 (q1:Int),.int .u32 (q2:Int),.slice va0 j vc0,.bool true,.int .u16 (pf:Int),.slice ea (Y2-Y1) ec,.slice pa (Y3-Y2) pc,.int .i64 ((b.length:Int)-(Y3:Int))] (0,0) _ hblk Tryz.underlying79 rfl Yo3 ?_)|(with_reducible refine store_at 79 (.tmp 2) (.tmp 94) rfl ?_;refine store_rowTo2 rfl 79 (.tmp 2) (.tmp 94) rfl rfl w.heap.size #[.bool ((M:Int) != 0),.int .i64 (T:Int),.int .u16 (q0:Int),.int .u32 (q1:Int),.int .u32 (q2:Int),.slice va0 j vc0,.bool true,.int .u16 (pf:Int),.slice ea (Y2-Y1) ec,.slice pa (Y3-Y2) pc,.int .i64 ((b.length:Int)-(Y3:Int))] rfl rfl 79 _ hres Yo3 Yo3 Yo3 ?_))
    have y0:=setRow_heap w11 w.heap.size _ #[.bool ((M:Int) != 0),.int .i64 (T:Int),.int .u16 (q0:Int),.int .u32 (q1:Int),.int .u32 (q2:Int),.slice va0 j vc0,.bool true,.int .u16 (pf:Int),.slice ea (Y2-Y1) ec,.slice pa (Y3-Y2) pc,.int .i64 ((b.length:Int)-(Y3:Int))] 79 (0,0) hres
    have z0:=cell_of y0 0
    have z1:=cell_of y0 1
    have z2:=cell_of y0 2
    have z3:=cell_of y0 3
    have z4:=cell_of y0 4
    have z5:=cell_of y0 5
    have z6:=cell_of y0 6
    have z7:=cell_of y0 7
    have z8:=cell_of y0 8
    have z9:=cell_of y0 9
    have z10:=cell_of y0 10
    simp only [List.getElem?_toArray,List.getElem?_cons_zero,List.getElem?_cons_succ] at z0 z1 z2 z3 z4 z5 z6 z7 z8 z9 z10
    refine bodyPost_ret (v:= .tuple #[.agg #[.bool ((M:Int) != 0),.int .i64 (T:Int),.int .u16 (q0:Int),.int .u32 (q1:Int),.int .u32 (q2:Int),.slice va0 j vc0,.bool true,.int .u16 (pf:Int),.slice ea (Y2-Y1) ec,.slice pa (Y3-Y2) pc,.int .i64 ((b.length:Int)-(Y3:Int))],.int .i64 0]) (by simp [results,Tryz.results125,go_sem,z0,z1,z2,z3,z4,z5,z6,z7,z8,z9,z10]) rfl ⟨⟨_,by rw [HX.out],?_⟩,?_⟩
    ·rw [HX.out]
     show PktIn _ _ (packet b (Y1,Y2,Y3))
     rw [HPAC.out,HM.out]
     refine ⟨.slice va0 j vc0,.slice ea (Y2-Y1) ec,.slice pa (Y3-Y2) pc,rfl,Row.setRow HR1.out hres (by decide) _,Row.setRow HR2.out hres (by decide) _,?_⟩
     have h:=Row.setRow HR3.out hres (by decide) #[.bool ((M:Int) != 0),.int .i64 (T:Int),.int .u16 (q0:Int),.int .u32 (q1:Int),.int .u32 (q2:Int),.slice va0 j vc0,.bool true,.int .u16 (pf:Int),.slice ea (Y2-Y1) ec,.slice pa (Y3-Y2) pc,.int .i64 ((b.length:Int)-(Y3:Int))]
     rw [show Y3-Y2=PY.length by rw [HPY.out,List.length_take,List.length_drop];omega] at h ⊢
     exact h
    ·exact below_setRow HPK.out.bel (Nat.le_refl _) _
end Go.Proofs.By
set_option linter.unusedSimpArgs false
namespace Go.Proofs.By
open Go.RowKit Go.Proofs.Heap
open Go.Proofs.Rm (TurnRow Turn Room RoomAt)
theorem cell_new {w:World} {g o:Nat} {u:Value} (h:w.cell? ⟨g,o,none⟩=some u) (x:Obj):(w.alloc x).cell? ⟨g,o,none⟩=some u:=by
 rw [World.cell?_of_block (w:=w) ((below_alloc w x).block g (World.block_lt_of_cell? w ⟨g,o,none⟩ h))];exact h
set_option maxHeartbeats 1000000 in
theorem refused_any (k x:Int) (w:World):Calls Tryz.prog 78 #[.int .i64 k,.int .i64 x] w fun e w'=>(∃ cs:List Value,e = .returned (.agg cs.toArray)∧TakenIn w' cs (refusedT k x))∧Below w.heap.size w w':=by
 have hb:Below w.heap.size w ((w.alloc (.cells Yz2a 100)).setRow w.heap.size #[.int .i64 k,.int .i64 0,.int .i64 0,.int .i64 x,.bool false,.int .i64 0,.int .u16 0,.int .u32 0,.int .u32 0,.slice none 0 0,.bool false,.int .u16 0,.slice none 0 0,.slice none 0 0,.int .i64 0,.int .i64 0,.bool false,.bool false,.int .u16 0,.slice none 0 0,.slice none 0 0,.int .i64 0]):=below_setRow (below_alloc w _) (Nat.le_refl _) _
 have y0:=setRow_heap (w.alloc (.cells Yz2a 100)) w.heap.size Yz2a #[.int .i64 k,.int .i64 0,.int .i64 0,.int .i64 x,.bool false,.int .i64 0,.int .u16 0,.int .u32 0,.int .u32 0,.slice none 0 0,.bool false,.int .u16 0,.slice none 0 0,.slice none 0 0,.int .i64 0,.int .i64 0,.bool false,.bool false,.int .u16 0,.slice none 0 0,.slice none 0 0,.int .i64 0] 100 (0,0) (heap_new w _)
 have hT:∃ cs:List Value,Ending.returned (.agg #[.int .i64 k,.int .i64 0,.int .i64 0,.int .i64 x,.bool false,.int .i64 0,.int .u16 0,.int .u32 0,.int .u32 0,.slice none 0 0,.bool false,.int .u16 0,.slice none 0 0,.slice none 0 0,.int .i64 0,.int .i64 0,.bool false,.bool false,.int .u16 0,.slice none 0 0,.slice none 0 0,.int .i64 0]) = .returned (.agg cs.toArray)∧TakenIn ((w.alloc (.cells Yz2a 100)).setRow w.heap.size #[.int .i64 k,.int .i64 0,.int .i64 0,.int .i64 x,.bool false,.int .i64 0,.int .u16 0,.int .u32 0,.int .u32 0,.slice none 0 0,.bool false,.int .u16 0,.slice none 0 0,.slice none 0 0,.int .i64 0,.int .i64 0,.bool false,.bool false,.int .u16 0,.slice none 0 0,.slice none 0 0,.int .i64 0]) cs (refusedT k x):=⟨[.int .i64 k,.int .i64 0,.int .i64 0,.int .i64 x,.bool false,.int .i64 0,.int .u16 0,.int .u32 0,.int .u32 0,.slice none 0 0,.bool false,.int .u16 0,.slice none 0 0,.slice none 0 0,.int .i64 0,.int .i64 0,.bool false,.bool false,.int .u16 0,.slice none 0 0,.slice none 0 0,.int .i64 0],rfl,TakenIn.refused _ k x⟩
 have HT:=Lib.hid hT
 clear hT
 go_enter Tryz.func78,Tryz.ntmps78
 go_wp2_with (with_reducible refine store_at 100 (.tmp 4) (.tmp 8) rfl ?_;refine store_rowTo2 rfl 100 (.tmp 4) (.tmp 8) rfl rfl w.heap.size #[.int .i64 k,.int .i64 0,.int .i64 0,.int .i64 x,.bool false,.int .i64 0,.int .u16 0,.int .u32 0,.int .u32 0,.slice none 0 0,.bool false,.int .u16 0,.slice none 0 0,.slice none 0 0,.int .i64 0,.int .i64 0,.bool false,.bool false,.int .u16 0,.slice none 0 0,.slice none 0 0,.int .i64 0] rfl rfl 100 Yz2a (heap_new w _) Yo3 Yo3 Yo3 ?_)
 exact bodyPost_ret (results_cell_row (by rfl) _ _ w.heap.size 100 #[.int .i64 k,.int .i64 0,.int .i64 0,.int .i64 x,.bool false,.int .i64 0,.int .u16 0,.int .u32 0,.int .u32 0,.slice none 0 0,.bool false,.int .u16 0,.slice none 0 0,.slice none 0 0,.int .i64 0,.int .i64 0,.bool false,.bool false,.int .u16 0,.slice none 0 0,.slice none 0 0,.int .i64 0] (0,0) _ (by rfl) y0 Tryz.underlying100 rfl Yo3) rfl ⟨HT.out,hb⟩
theorem fr_setRow' {B:Nat} {S:Nat→Prop} {a w:World} (h:Fr B S a w) {g:Nat} (hg:B≤g) (c:Array Value):Fr B S a (w.setRow g c):=
 ⟨h.os,h.tape,h.output,by simpa [World.setRow] using h.size,fun k hk hs=>by rw [setRow_other w g k _ (by omega)];exact h.block k hk hs⟩
theorem set_one {cs:Array Value} (h:cs.all (·.oneCell')=true) (i:Nat) {v:Value} (hv:v.oneCell'=true):(cs.setIfInBounds i v).all (·.oneCell')=true:=by
 rw [Array.all_eq_true] at h ⊢
 intro j hj
 rw [Array.getElem_setIfInBounds]
 split
 ·exact hv
 ·exact h j (by simpa using hj)
set_option maxRecDepth 100000 in
set_option maxHeartbeats 1000000 in
theorem control_any (g:Nat) (c0:Value) (ep:Int) (cs:List Value) (w:World) (hg:w.heap[g]?=some (.cells #[c0,.int .i64 ep] 131 (0,0))) (h0:0≤ep) (h9:ep<1000000000) (hcs:cs.length=22) (h1:cs.toArray.all (·.oneCell')=true) :
  Calls Tryz.prog 79 #[.pointer (some ⟨g,0,none⟩),.agg cs.toArray] w fun e w'=>e = .returned (.agg ((cs.set 0 (.int .i64 2)).set 2 (.int .i64 (ep+1))).toArray)∧w'.heap[g]?=some (.cells #[c0,.int .i64 (ep+1)] 131 (0,0))∧Fr w.heap.size (· = g) w w':=by
 have hcell:w.cell? ⟨g,1,none⟩=some (.int .i64 ep):=cell_of hg 1
 have hfz:=frozen_of hg 1
 have hgl:=hp_lt hg
 have hw:IntKind.i64.wrap (ep+1)=ep+1:=IntWalk.i64_in _ (by omega)
 have hsz':((cs.set 0 (.int .i64 2)).set 2 (.int .i64 (ep+1))).length=22:=by rw [List.length_set,List.length_set,hcs]
 have hone:((cs.set 0 (.int .i64 2)).set 2 (.int .i64 (ep+1))).toArray.all (·.oneCell')=true:=by
  have h:=set_one (set_one h1 0 (v:= .int .i64 2) rfl) 2 (v:= .int .i64 (ep+1)) rfl
  rw [List.setIfInBounds_toArray,List.setIfInBounds_toArray] at h
  exact h
 have hgb:(w.setCell ⟨g,1,none⟩ (.int .i64 (ep+1))).heap[g]?=some (.cells #[c0,.int .i64 (ep+1)] 131 (0,0)):=hp_set hg 1 _
 have c0':=cell_of hgb 1
 clear hg h1
 go_enter Tryz.func79,Tryz.ntmps79
 go_upto_region 2 with fail
 have hne:g≠w.heap.size:=by omega
 refine wp_region_noPanic ?_
 refine wp_region_held_drew (S:=(fun w'=>w'.cell? ⟨g,1,none⟩=some (.int .i64 (ep+1)))) Yo3 ?_ (fun hHeld0=>?_)
 ·(try dsimp only)
  exact cell_new (cell_new c0' _) _
 refine YA 0 (h:=YA 1 (h:=YA 2 (h:=YA 3 (h:=YA 4 (h:=YA 5 (h:=?_))))))
 refine YHR 6 (h:=fun K hK=>?_)
 go_simp
 refine hK.out _ _ ?_ (fun hHeld1=>?_)
 ·(try dsimp only)
  exact cell_new (cell_new c0' _) _
 clear hK K
 try simp only [AnyT.pt]
 refine YA 7 (h:=YA 8 (h:=?_))
 refine YHR 9 (h:=fun K hK=>?_)
 go_simp
 refine hK.out _ _ ?_ (fun hHeld2=>?_)
 ·(try dsimp only)
  exact cell_new (cell_new c0' _) _
 clear hK K
 try simp only [AnyT.pt]
 refine wpAnyH_done Yo3 ?_ _
 refine NoPanic.normal ?_
 have hfr1:Fr w.heap.size (· = g) w ((((w.setCell ⟨g,1,none⟩ (.int .i64 (ep+1))).alloc (.cells ((cs.set 0 (.int .i64 2)).set 2 (.int .i64 (ep+1))).toArray 100)).alloc (.cells Yz2a 100)).drew):=(((Fr.refl w.heap.size (· = g) w).setAt 1 (.int .i64 (ep+1))).alloc (by show w.heap.size≤(w.heap.modify _ _).size;rw [Array.size_modify];exact Nat.le_refl _) _ |>.alloc (by show w.heap.size≤((w.heap.modify _ _).push _).size;rw [Array.size_push,Array.size_modify];exact Nat.le_succ _) _).drew
 have hs0:(w.setCell ⟨g,1,none⟩ (.int .i64 (ep+1))).heap.size=w.heap.size:=by show (w.heap.modify _ _).size=_;rw [Array.size_modify]
 have y2:((((w.setCell ⟨g,1,none⟩ (.int .i64 (ep+1))).alloc (.cells ((cs.set 0 (.int .i64 2)).set 2 (.int .i64 (ep+1))).toArray 100)).alloc (.cells Yz2a 100)).drew).heap[w.heap.size]?=some (.cells ((cs.set 0 (.int .i64 2)).set 2 (.int .i64 (ep+1))).toArray 100 (0,0)):=by
  show (((w.setCell ⟨g,1,none⟩ (.int .i64 (ep+1))).alloc (.cells ((cs.set 0 (.int .i64 2)).set 2 (.int .i64 (ep+1))).toArray 100)).alloc _).heap[w.heap.size]?=_
  rw [(below_alloc _ _).block _ (by show _<((w.setCell _ _).heap.push _).size;rw [Array.size_push,hs0];exact Nat.lt_succ_self _),←hs0]
  exact heap_new _ _
 have hz1:((((w.setCell ⟨g,1,none⟩ (.int .i64 (ep+1))).alloc (.cells ((cs.set 0 (.int .i64 2)).set 2 (.int .i64 (ep+1))).toArray 100)).alloc (.cells Yz2a 100)).drew).heap[w.heap.size+1]?=some (.cells Yz2a 100 (0,0)):=by
  have h:=heap_new ((w.setCell ⟨g,1,none⟩ (.int .i64 (ep+1))).alloc (.cells ((cs.set 0 (.int .i64 2)).set 2 (.int .i64 (ep+1))).toArray 100)) (.cells Yz2a 100)
  have e:((w.setCell ⟨g,1,none⟩ (.int .i64 (ep+1))).alloc (.cells ((cs.set 0 (.int .i64 2)).set 2 (.int .i64 (ep+1))).toArray 100)).heap.size=w.heap.size+1:=by show ((w.setCell _ _).heap.push _).size=_;rw [Array.size_push,hs0]
  rw [e] at h
  exact h
 have hgb1:((((w.setCell ⟨g,1,none⟩ (.int .i64 (ep+1))).alloc (.cells ((cs.set 0 (.int .i64 2)).set 2 (.int .i64 (ep+1))).toArray 100)).alloc (.cells Yz2a 100)).drew).heap[g]?=some (.cells #[c0,.int .i64 (ep+1)] 131 (0,0)):=by
  show (((w.setCell ⟨g,1,none⟩ (.int .i64 (ep+1))).alloc (.cells ((cs.set 0 (.int .i64 2)).set 2 (.int .i64 (ep+1))).toArray 100)).alloc _).heap[g]?=_
  rw [(below_alloc _ _).block _ (by show _<((w.setCell _ _).heap.push _).size;rw [Array.size_push,hs0];omega),(below_alloc _ _).block _ (by rw [hs0];exact hgl)]
  exact hgb
 clear hHeld0 hHeld1 hHeld2 c0' hgb hs0
 generalize (((w.setCell ⟨g,1,none⟩ (.int .i64 (ep+1))).alloc (.cells ((cs.set 0 (.int .i64 2)).set 2 (.int .i64 (ep+1))).toArray 100)).alloc (.cells Yz2a 100)).drew=w2 at *
 have HFR:=Lib.hid hfr1
 have HGB:=Lib.hid hgb1
 clear hfr1 hgb1
 generalize hcs2:(cs.set 0 (.int .i64 2)).set 2 (.int .i64 (ep+1))=cs2 at *
 have HCS2:=Lib.hid hcs2
 clear hcs2
 have hi:(Tryz.prog.info? 100).map (·.size)=some cs2.toArray.size:=by rw [List.size_toArray,hsz'];kernel_rfl
 have hold:(Yz2a:Array Value).size=cs2.toArray.size:=by rw [show cs2.toArray.size=22 by rw [List.size_toArray,hsz']];rfl
 have hgs:g≠w.heap.size+1:=by omega
 go_wp2_with (first|(with_reducible refine load_at 100 (.tmp 3) rfl ?_;refine load_rowTo2 rfl 100 (.tmp 3) rfl w.heap.size rfl 100 cs2.toArray (0,0) _ y2 Tryz.underlying100 rfl hi ?_)|(with_reducible refine store_at 100 (.tmp 4) (.tmp 20) rfl ?_;refine store_rowTo2 rfl 100 (.tmp 4) (.tmp 20) rfl rfl (w.heap.size+1) cs2.toArray rfl rfl 100 Yz2a hz1 hi hold hone ?_))
 refine bodyPost_ret (v:= .agg cs2.toArray) ?_ rfl ?_
 ·exact results_cell_row (by rfl) _ _ (w.heap.size+1) 100 cs2.toArray (0,0) _ (by rfl) (setRow_heap _ _ _ _ _ _ hz1) Tryz.underlying100 rfl hi
 refine ⟨by rw [HCS2.out],?_,?_⟩
 ·rw [(fr_setRow w2 (w.heap.size+1) cs2.toArray).block g (hp_lt HGB.out) hgs];exact HGB.out
 ·exact fr_setRow' HFR.out (Nat.le_succ _) cs2.toArray
end Go.Proofs.By
